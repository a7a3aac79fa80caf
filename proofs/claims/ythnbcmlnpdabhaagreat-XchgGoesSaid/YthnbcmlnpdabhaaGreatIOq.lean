/-
  Layers 22 and 23, the reference: Draw, Servers, Tries.
-/
import Derived.Test.YthnbcmlnpdabhaaGreatILq
namespace Go.Proofs.YthnbcmlnpdabhaaGreat
open _root_.Go.Proofs.Tryz
open Go.RowKit
set_option maxRecDepth 100000
set_option linter.unusedVariables false
set_option linter.unusedSimpArgs false
def RLotAt (w : World) (g : Nat) (A : Option Addr) (c : Nat) (L : Lt) : Prop := Blk w g 86 [.slice A L.ds.length c, .int .i64 L.us] ∧ DrwsR w A L.ds ∧ (0 < L.ds.length → ∀ b, A = some b → b.block ≠ g)
def RDrRet (g : Nat) (A : Option Addr) (c : Nat) (r : Int × Lt) (w : World) (e : Ending) (w' : World) : Prop := e = .returned (.int .i64 r.1) ∧ RLotAt w' g A c r.2 ∧ w.grownBy w' (some g)
theorem rdraw_any (g : Nat) (A : Option Addr) (c : Nat) (L : Lt) (n : Int) (w : World) (h : RLotAt w g A c L) (hn : 0 < n) (hn2 : n ≤ 100000) (hu : L.us ≤ 1000000000) :
  Calls prog 42 #[.pointer (some ⟨g, 0, none⟩), .int .i64 n] w (RDrRet g A c (drawL L n) w) := by
 obtain ⟨hb, hD, hA⟩ := h
 have hgl := hb.lt
 have c0 := hb.cell_ 0 rfl
 have c1 := hb.cell_ 1 rfl
 have f1 := hb.frozen 1
 have hn' : ¬ n < 1 := by omega
 have hu0 : (0 : Int) ≤ L.us := by omega
 have hwn : IntKind.u64.wrap n = n := by rw [IntKind.wrap_u64]; exact Int.emod_eq_of_lt (by omega) (by omega)
 have hn0 : ¬ n = 0 := by omega
 have hu1 : (L.us : Int) ≤ 1000000000 := by omega
 have DV := Hh (draw_val L.get n hn hn2)
 have FIN : Hid (RDrRet g A c (drawL L n) w (.returned (.int .i64 (IntKind.u64.wrap L.get % n))) (w.setCell ⟨g, 1, none⟩ (.int .i64 ((L.us : Int) + 1)))) := Hh (by
  have e : (.int .i64 ((L.us : Int) + 1)) = Value.int .i64 ((L.us + 1 : Nat) : Int) := by congr 1
  rw [e]
  have hg : w.grownBy (w.setCell ⟨g, 1, none⟩ (.int .i64 ((L.us + 1 : Nat) : Int))) (some g) := grown_set (World.grownBy.refl _ _) _ _
  refine ⟨rfl, ⟨hb.set 1 _, fun hp => ?_, hA⟩, hg⟩
  obtain ⟨b, off, h1, h2, h3⟩ := hD hp
  refine ⟨b, off, h1, by simpa [World.setCell] using h2, fun j v hv => ?_⟩
  rw [← h3 j v hv]
  exact grown_cell hg ⟨b, off + j, none⟩ h2 (by intro e; injection e with e; exact hA hp _ h1 e))
 by_cases hlt : L.us < L.ds.length
 case pos =>
  have e1 : L.get = L.ds[L.us] := by unfold Lt.get; rw [dif_pos hlt]
  rw [e1] at DV FIN
  obtain ⟨b, off, rfl, hbl, hr⟩ := hD (by omega)
  have cd : w.cell? ⟨b, off + L.us, none⟩ = some (.int .i64 L.ds[L.us]) := hr L.us _ (by simp [i64s, hlt])
  have hlt' : (L.us : Int) < L.ds.length := by omega
  clear hb hD e1 hr hn hn2 hA
  generalize L.ds[L.us] = d at *
  go_enter func42, ntmps42
  go_wp2_with fail
  go_ret
  rw [DV.out]
  exact FIN.out
 case neg =>
  have e1 : L.get = L.us := by unfold Lt.get; rw [dif_neg hlt]
  rw [e1] at DV FIN
  have hlt' : ¬ (L.us : Int) < L.ds.length := by omega
  have hwu : IntKind.u64.wrap (L.us : Int) = L.us := by rw [IntKind.wrap_u64]; exact Int.emod_eq_of_lt (by omega) (by omega)
  have DV2 : Hid (wrap64 ((L.us : Int) % n) = (L.us : Int) % n) := Hh (by have := draw_val L.us n hn hn2; rwa [hwu, Int.tmod_eq_emod_of_nonneg hu0] at this)
  rw [hwu] at FIN
  clear hb hD e1 hn hn2 hwu DV hA
  go_enter func42, ntmps42
  go_wp2_with fail
  go_ret
  rw [DV2.out]
  exact FIN.out
theorem rs_fld0 (A : Option Addr) (n c : Nat) (v2 v3 : Value) (r : Rs) (W : World) : (Instr.field 69 (.agg (rsC (.slice A n c) v2 v3 r).toArray) 0).run prog W = .ok (.slice A n c) W := by kernel_rfl
theorem rs_fld5' (v1 v2 v3 : Value) (r : Rs) (W : World) : (Instr.field 69 (.agg (rsC v1 v2 v3 r).toArray) 5).run prog W = .ok (.int .i64 r.at_) W := by kernel_rfl
theorem servers_at (r : Rs) (turn : Int) (k : Nat) (hk : k < (heldR r).sv.length) : ∃ h1 h2, (serversR r turn)[k]'h1 = (heldR r).sv[(k + turnAt r turn) % (heldR r).sv.length]'h2 := by
 have ht := turn_lt r turn
 refine ⟨by rw [servers_len]; exact hk, Nat.mod_lt _ (by omega), ?_⟩
 unfold serversR
 by_cases h : k < (heldR r).sv.length - turnAt r turn
 ·
  have e : (k + turnAt r turn) % (heldR r).sv.length = k + turnAt r turn := Nat.mod_eq_of_lt (by omega)
  rw [List.getElem_append_left (by simp; omega), List.getElem_drop]
  simp only [e, Nat.add_comm]
 ·
  have e : (k + turnAt r turn) % (heldR r).sv.length = k - ((heldR r).sv.length - turnAt r turn) := by
   rw [Nat.mod_eq_sub_mod (by omega), Nat.mod_eq_of_lt (by omega)]; omega
  rw [List.getElem_append_right (by simp; omega), List.getElem_take]
  simp only [e, List.length_drop]
set_option maxHeartbeats 2000000 in
theorem rservers_any (cs : List Value) (r : Rs) (turn : Int) (w : World) (h : RsIs w cs r) : Calls prog 95 #[.agg cs.toArray, .int .i64 turn] w (AdsRet (serversR r turn) w) := by
 have hcl := h.len
 have d6 : cs[6]? = some (.bool r.ro) := by obtain ⟨A1, c1, A2, c2, A3, c3, rfl, _⟩ := h; rfl
 have HX : Below w.heap.size w (w.alloc (.cells cs.toArray 69)) := (Below.refl _ _).alloc (Nat.le_refl _) _
 have X := Blk.new w 69 cs
 have RV := Hh (refResolv_any cs r _ (h.below HX))
 obtain ⟨hn0, hn3⟩ := held_sv r
 have hat := turn_lt r turn
 have HT : Hid (turnAt r turn = if r.ro then (IntKind.u64.wrap turn % (heldR r).sv.length).toNat else 0) := Hh rfl
 have SA := Hh (fun k hk => servers_at r turn k hk)
 have hsl := servers_len r turn
 unfold RvRet at RV
 clear h
 obtain ⟨hr, hhr⟩ : ∃ hr, Hid (heldR r = hr) := ⟨_, Hh rfl⟩
 rw [hhr.out] at RV hn0 hn3 hat HT SA hsl
 generalize turnAt r turn = at_ at *
 obtain ⟨T, hT⟩ : ∃ T, Hid (serversR r turn = T) := ⟨_, Hh rfl⟩
 rw [hT.out] at SA hsl ⊢
 go_enter func95, ntmps95
 go_wp2_with (refine at_op (.load 69 (.tmp 2)) rfl ?_; go_must (refine wpList_ldB rfl _ _ rfl w.heap.size 0 rfl X 10 (by omega) _ underlying69 rfl rsI10 cs (tk0 (by omega)) ?_))
 refine RV.out.mono ?_
 rintro _ w1 ⟨A, c, A2, n2, c2, A3, n3, c3, rfl, hO, b1⟩
 have H1 := below_then HX HX.size b1
 have X1 := X.below b1 X.lt
 have RF := Hh (fun V => rs_fld0 A hr.sv.length c (.slice A2 n2 c2) (.slice A3 n3 c3) hr V)
 obtain ⟨RL, hRL⟩ : ∃ RL : List Value, RL = rsC (.slice A hr.sv.length c) (.slice A2 n2 c2) (.slice A3 n3 c3) hr := ⟨_, rfl⟩
 rw [← hRL] at RF ⊢
 have HO := Hh hO
 clear RV b1 HX X hRL hO
 generalize hS : hr.sv = S at *
 have hwn : IntKind.u64.wrap (S.length : Int) = S.length := by rw [IntKind.wrap_u64]; exact Int.emod_eq_of_lt (by omega) (by omega)
 have DV := Hh (draw_val turn S.length (by omega) (by omega))
 have hn0' : ¬ (S.length : Int) = 0 := by omega
 have d6' := X1.cell_ 6 d6
 go_wp2_with (refine at_op (.field 69 (.tmp 11) 0) rfl ?_; go_must (refine wpList_fld rfl 69 (.tmp 11) 0 rfl rfl (RF.out _) ?_))
 go_loopw [7, 8] (fun kv iv wr => ∃ k : Nat, k ≤ S.length ∧ iv = .int .i64 k ∧ AdsO wr w1.heap.size kv (T.take k) ∧ Below w1.heap.size w1 wr) (fun _ iv _ => S.length - (intOf iv).toNat)
 case atStart => exact ⟨0, Nat.zero_le _, rfl, LOwn.nil _ _ _ _ _, Below.refl _ _⟩
 obtain ⟨k, hk, rfl, ho, hB⟩ := hrel
 by_cases hlt : k < S.length
 case neg =>
  have hlt' : ¬ (k : Int) < S.length := by omega
  go_wp2_with fail
  go_ret
  refine ⟨_, rfl, ?_, below_then H1 H1.size hB⟩
  rw [List.take_of_length_le (by omega)] at ho
  exact LOwn.zero ho
 have hlt' : (k : Int) < S.length := by omega
 obtain ⟨Ak, ck, hv⟩ := ho.form
 subst hv
 have hkl : (T.take k).length = k := by rw [List.length_take]; omega
 have e6 := (X1.below hB X1.lt).cell_ 6 d6
 have HOO := Hh ho
 clear ho
 rw [hkl]
 go_upto_if 22 with fail
 go_cut [9] (fun v wx => v = .int .i64 (((k + at_) % S.length : Nat) : Int) ∧ wx = wr)
 case first =>
  cases hro : r.ro with
  | true =>
   rw [hro] at HT e6
   clear hro d6'
   have hs : IntKind.u64.wrap turn % (S.length : Int) = (at_ : Int) := by
    have h1 := Int.emod_nonneg (IntKind.u64.wrap turn) (show (S.length : Int) ≠ 0 by omega)
    have h2 := HT.out
    simp only [if_true] at h2
    rw [h2, Int.toNat_of_nonneg h1]
   have hs' := Hh hs
   clear hs
   go_wp2_with fail
   go_meet
   case rel =>
    refine ⟨?_, rfl⟩
    rw [DV.out, hs'.out]
    have e1 : wrap64 ((k : Int) + (at_ : Int)) = (k : Int) + at_ := IntWalk.wrap64_in _ ⟨by omega, by omega⟩
    rw [e1, Int.tmod_eq_emod_of_nonneg (by omega)]
    rfl
  | false =>
   rw [hro] at HT e6
   clear hro d6'
   go_wp2_with fail
   go_meet
   case rel =>
    have h2 := HT.out
    simp only [Bool.false_eq_true, if_false] at h2
    exact ⟨by rw [h2, Nat.add_zero, Nat.mod_eq_of_lt hlt], rfl⟩
 obtain ⟨rfl, hwc⟩ := hcut
 rw [hwc]
 clear hwc e6
 obtain ⟨e1, e2, e3⟩ := SA.out k hlt
 obtain ⟨gs, hA, hgs, hrow⟩ := LOwn.at_ (fun _ _ h => h.len) HO.out (by omega)
 obtain ⟨es, hes, hce, hip⟩ := hrow ((k + at_) % S.length) e2
 generalize (k + at_) % S.length = j at *
 have hes := range_below hes hB hgs
 rw [Nat.zero_add] at hes
 have hel : es.length = 18 := by rw [hce]; exact Adr.cells_len _ hip
 have hone : ∀ v ∈ es, v.oneCell' = true := by rw [hce]; exact Adr.cells_one _
 have HI : Hid (AdI es T[k]) := Hh ⟨by rw [e3]; exact hce, by rw [e3]; exact hip⟩
 subst hA
 have K3 : Below wr.heap.size wr (wr.alloc (.cells es.toArray 24)) := (Below.refl _ _).alloc (Nat.le_refl _) _
 have O3 := LOwn.below (R' := AdI) HOO.out K3 (fun _ _ h => h)
 have N3 := HOO.out.ne (Nat.le_refl _)
 have hj' : (j : Int) < S.length := by omega
 have hkk : (T.take k).length + 1 ≤ 200 := by omega
 have HKL := Hh hkl
 clear hce hip hrow HOO DV HT e3 SA d6'
 go_wp2_with (first
  | (refine at_op (.load 24 (.tmp 36)) rfl ?_; go_must (refine wpList_ldR rfl 24 (.tmp 36) rfl gs (j * 18) rfl es hes _ underlying24 rfl (by rw [hel]; exact adI18) ?_))
  | (refine at_op (.buildSlice 65 1 #[(0, .tmp 37)]) rfl ?_; go_must (refine wpList_bsG rfl 65 24 _ 18 32 underlying65 adInfo3 (by decide) (by decide) (.tmp 37) rfl es rfl hel ?_))
  | (at_builtin; go_must (refine wpList_app1 _ rfl _ _ 65 rfl 24 _ 18 32 underlying65 adInfo3 (by kernel_rfl) (by decide) w1.heap.size _ (T.take k) (by rw [hkl]; rfl) O3 (by have := hB.size; simp; omega) wr.heap.size es T[k] rfl (Blk.new _ _ _) N3 hel hone HI.out (by simp only [maxLen]; omega) (by omega) ?_)))
 intro v' w4 O4 g4
 have H4 := (below_then hB hB.size K3).grown g4 (by have := hB.size; simp; omega) (by have := O3.base; rwa [HKL.out] at this)
 clear g4 K3 O3 N3
 go_wp2_with fail
 go_roundw
 case rel => exact ⟨k + 1, by omega, by go_num, O4, H4⟩
 case measure => simp [intOf]; omega
set_option maxHeartbeats 2000000 in
theorem rtries_any (cs : List Value) (r : Rs) (turn : Int) (w : World) (h : RsIs w cs r) : Calls prog 41 #[.agg cs.toArray, .int .i64 turn] w (AdsRet (triesR r turn) w) := by
 have hcl := h.len
 have HX : Below w.heap.size w (w.alloc (.cells cs.toArray 69)) := (Below.refl _ _).alloc (Nat.le_refl _) _
 have X := Blk.new w 69 cs
 have RV := Hh (fun V (hV : Below w.heap.size w V) => refResolv_any cs r V (h.below hV))
 have SV := Hh (fun V (hV : Below w.heap.size w V) => rservers_any cs r turn V (h.below hV))
 have HT : Hid (triesR r turn = roundsA (serversR r turn) (heldR r).at_.toNat) := Hh rfl
 have hsl := servers_len r turn
 have hs3 := (held_sv r).2
 obtain ⟨ha1, ha2⟩ := att_le r
 obtain ⟨na, hna⟩ : ∃ na : Nat, (heldR r).at_ = na := ⟨(heldR r).at_.toNat, by omega⟩
 rw [hna] at HT ha1 ha2
 rw [Int.toNat_natCast] at HT
 rw [← hsl] at hs3
 unfold RvRet at RV
 have HNA := Hh hna
 clear h hna hsl
 generalize serversR r turn = S at *
 obtain ⟨T, hT⟩ : ∃ T, Hid (triesR r turn = T) := ⟨_, Hh rfl⟩
 rw [hT.out] at HT ⊢
 go_enter func41, ntmps41
 go_wp2_with fail
 go_loopw [5, 6] (fun kv iv wr => ∃ k : Nat, k ≤ na ∧ iv = .int .i64 k ∧ AdsO wr w.heap.size kv (roundsA S k) ∧ Below w.heap.size w wr ∧ Blk wr w.heap.size 69 cs) (fun _ iv _ => na - (intOf iv).toNat)
 case atStart => exact ⟨0, Nat.zero_le _, rfl, LOwn.nil _ _ _ _ _, HX, X⟩
 clear HX X
 obtain ⟨k, hk, rfl, ho, hB, X⟩ := hrel
 obtain ⟨Ak, ck, hv⟩ := ho.form
 subst hv
 have HOO := Hh ho
 clear ho
 have hb3 : k * S.length ≤ 15 := Nat.le_trans (Nat.mul_le_mul (by omega : k ≤ 5) hs3) (by decide)
 have hrb : (roundsA S k).length ≤ 15 := by rw [roundsA_len]; exact hb3
 clear hb3
 have R1 := Hh (RV.out wr hB)
 go_wp2_with (refine at_op (.load 69 (.tmp 2)) rfl ?_; go_must (refine wpList_ldB rfl _ _ rfl w.heap.size 0 rfl X 10 (by omega) _ underlying69 rfl rsI10 cs (tk0 (by omega)) ?_))
 refine R1.out.mono ?_
 rintro _ w1 ⟨A, c, A2, n2, c2, A3, n3, c3, rfl, _, b1⟩
 have X1 := X.below b1 X.lt
 have H1 := below_then hB hB.size b1
 have O1 := LOwn.below (R' := AdI) HOO.out b1 (fun _ _ h => h)
 have RF : Hid (∀ V, (Instr.field 69 (.agg (rsC (.slice A (heldR r).sv.length c) (.slice A2 n2 c2) (.slice A3 n3 c3) (heldR r)).toArray) 5).run prog V = .ok (.int .i64 na) V) := Hh (fun V => by rw [← HNA.out]; exact rs_fld5' ..)
 obtain ⟨RL, hRL⟩ : ∃ RL : List Value, RL = rsC (.slice A (heldR r).sv.length c) (.slice A2 n2 c2) (.slice A3 n3 c3) (heldR r) := ⟨_, rfl⟩
 rw [← hRL] at RF ⊢
 clear hRL b1 X hB R1 HOO
 have S1 := Hh (SV.out w1 H1)
 by_cases hlt : k < na
 case neg =>
  have hlt' : ¬ (k : Int) < na := by omega
  go_wp2_with (refine at_op (.field 69 (.tmp 9) 5) rfl ?_; go_must (refine wpList_fld rfl 69 (.tmp 9) 5 rfl rfl (RF.out _) ?_))
  go_ret
  refine ⟨_, rfl, ?_, H1⟩
  rw [HT.out, show na = k by omega]
  exact LOwn.zero O1
 have hlt' : (k : Int) < na := by omega
 go_wp2_with (first
  | (refine at_op (.field 69 (.tmp 9) 5) rfl ?_; go_must (refine wpList_fld rfl 69 (.tmp 9) 5 rfl rfl (RF.out _) ?_))
  | (refine at_op (.load 69 (.tmp 2)) rfl ?_; go_must (refine wpList_ldB rfl _ _ rfl w.heap.size 0 rfl X1 10 (by omega) _ underlying69 rfl rsI10 cs (tk0 (by omega)) ?_)))
 refine S1.out.mono ?_
 rintro _ w2 ⟨vS, rfl, oS, b2⟩
 have X2 := X1.below b2 X1.lt
 have H2 := below_then H1 H1.size b2
 have O2 := LOwn.below (R' := AdI) O1 b2 (fun _ _ h => h)
 obtain ⟨AS, cS, hv⟩ := oS.form
 subst hv
 have W1 := AdsO.own (l := roundsA S k) O2
 have W2 := AdsO.own (l := S) oS
 have hi1 := AdsO.ip (l := roundsA S k) O2
 have hi2 := AdsO.ip (l := S) oS
 have HR : Hid (0 < S.length → ∃ b off, AS = some ⟨b, off, none⟩ ∧ w2.rangeAt b off (adsC S)) := Hh (fun hp => by
  obtain ⟨g, L, hA, hb, hL, _⟩ := own_range W2 hp (adsC_len S hi2)
  refine ⟨g, 0, hA, fun j v hv => ?_⟩
  rw [Nat.zero_add]
  refine hb.cell_ j ?_
  rw [← hL] at hv
  rw [List.getElem?_take] at hv
  split at hv
  ·
   exact hv
  ·
   cases hv)
 have OB := Hh O2.base
 have HK := Hh (fun w' (hg : w2.grownBy w' (Value.slice Ak (roundsA S k).length ck).ownBlock) => O2.keep X2 (by decide) hg)
 clear S1 b2 X1 H1 O1 RF oS O2
 go_wp2_with (at_builtin; go_must (refine wpList_appG w2 rfl _ _ 65 rfl 24 _ 18 32 underlying65 adInfo3 (by kernel_rfl) (by decide) w.heap.size _ (roundsA S k).length _ rfl W1 H2.size AS S.length cS (adsC S) rfl HR.out (adsC_len S hi2) (adsC_one S) (by simp only [maxLen]; omega) (by omega) _ rfl ?_))
 intro A' c' w3 ho' hg
 have X3 := HK.out w3 hg
 have H3 := H2.grown hg H2.size OB.out
 have O3 : AdsO w3 w.heap.size (.slice A' ((roundsA S k).length + S.length) c') (roundsA S (k + 1)) := by
  have e : roundsA S (k + 1) = roundsA S k ++ S := rfl
  rw [e]
  refine AdsO.mk ?_ (fun a ha => (List.mem_append.1 ha).elim (hi1 a) (hi2 a))
  rw [List.length_append, adsC_app]
  exact ho'
 clear HK OB HR ho' hg W1 W2 X2 H2
 go_wp2_with fail
 go_roundw
 case rel => exact ⟨k + 1, by omega, by go_num, O3, H3, X3⟩
 case measure => simp [intOf]; omega
theorem ask_id {q : Qn} {id : Int} {e : Bool} (h : (encM (askM q id e) false).2 = 0) (h1 : 0 ≤ id) (h2 : id ≤ 65535) : 2 ≤ (encM (askM q id e) false).1.length ∧ (numB ((encM (askM q id e) false).1.take 2) : Int) = id := by
 have he : (encM (askM q id e) false).1 = (encS (askM q id e) false).1 := by
  unfold encM at h ⊢
  split at h
  ·
   rename_i hc; exact absurd h hc
  ·
   rename_i hc
   split at h
   ·
    cases h
   ·
    rename_i hl; rw [if_neg hc, if_neg hl]
 obtain ⟨t, ht⟩ : ∃ t, (encS (askM q id e) false).1 = putB 2 id ++ t := by
  cases e with
  | false =>
   refine ⟨putB 2 (askH id).num ++ putB 2 (1 : Nat) ++ putB 2 (0 : Nat) ++ putB 2 (0 : Nat) ++ putB 2 (0 : Nat) ++ putZ q.name ++ putB 2 q.ty ++ putB 2 q.cl, ?_⟩
   show ((putHead (askH id) (1 : Nat) (0 : Nat) (0 : Nat) (0 : Nat)) ++ putZ q.name ++ putB 2 q.ty ++ putB 2 q.cl) = _
   unfold putHead
   simp only [List.append_assoc]
   rfl
  | true =>
   refine ⟨putB 2 (askH id).num ++ putB 2 (1 : Nat) ++ putB 2 (0 : Nat) ++ putB 2 (0 : Nat) ++ putB 2 (1 : Nat) ++ putZ q.name ++ putB 2 q.ty ++ putB 2 q.cl ++ putZ optR.name ++ putB 2 optR.ty ++ putB 2 optR.cl ++ putB 4 optR.ttl ++ putB 2 (0 : Nat), ?_⟩
   show (putRec ((putHead (askH id) (1 : Nat) (0 : Nat) (0 : Nat) (1 : Nat)) ++ putZ q.name ++ putB 2 q.ty ++ putB 2 q.cl, none) optR).1 = _
   have h3 : ∀ T k, dataR T k optR = [] := fun T k => rfl
   unfold putRec recD
   rw [h3]
   unfold recS putHead
   simp only [putSO, List.append_assoc, List.append_nil, List.length_nil]
   rfl
 rw [he, ht]
 have hl := putB_length 2 id
 refine ⟨by rw [List.length_append, hl]; omega, ?_⟩
 rw [List.take_left' hl]
 exact numB2 id ⟨h1, h2⟩
def seekG (tr : List Adr) (t : Adr) : Nat → Nat → Nat → Nat × Nat
 | 0, a, l => (a, l)
 | f + 1, a, l => if h : a < tr.length then (if tr[a] ≠ t ∨ l = 3 then seekG tr t f (a + 1) 0 else (a, l)) else (a, l)
theorem seek_ok {tr : List Adr} {t : Adr} {k : Nat} (hk : k < tr.length) (ht : tr[k] = t) : ∀ (f a l : Nat), k < f + a → a ≤ k → (a = k → l ≠ 3) → ∃ a' l', seekG tr t f a l = (a', l') ∧ a' ≤ k ∧ ((a' = a ∧ l' = l ∧ l ≠ 3) ∨ (a < a' ∧ l' = 0)) := by
 intro f
 induction f with
 | zero => intro a l h1 h2 _; omega
 | succ f ih =>
  intro a l h1 h2 h3
  unfold seekG
  rw [dif_pos (by omega)]
  split
  ·
   rename_i hc
   have hak : a ≠ k := by
    intro e
    subst e
    rcases hc with hc | hc
    ·
     exact hc ht
    ·
     exact h3 rfl hc
   obtain ⟨a', l', r1, r2, r3⟩ := ih (a + 1) 0 (by omega) (by omega) (fun _ => by decide)
   refine ⟨a', l', r1, r2, .inr ?_⟩
   rcases r3 with ⟨e1, e2, _⟩ | ⟨e1, e2⟩
   ·
    exact ⟨by omega, e2⟩
   ·
    exact ⟨by omega, e2⟩
  ·
   rename_i hc
   exact ⟨a, l, rfl, h2, .inl ⟨rfl, rfl, fun h => hc (.inr h)⟩⟩
abbrev SG := Lt × Nat × Nat
def stepG (tr : List Adr) (s : SG) (o : Ou) : Option SG :=
 if o.kind ≠ 1 ∧ o.kind ≠ 2 then some s
 else if o.port ≠ 1024 + (drawL s.1 64512).1 ∨ (o.kind = 1 ∧ (o.data.length < 2 ∨ (numB (o.data.take 2) : Int) ≠ (drawL (drawL s.1 64512).2 65536).1)) then none
 else if (seekG tr o.to_ (tr.length + 1) s.2.1 s.2.2).1 = tr.length then none
 else some ((drawL (drawL s.1 64512).2 65536).2, (seekG tr o.to_ (tr.length + 1) s.2.1 s.2.2).1, (seekG tr o.to_ (tr.length + 1) s.2.1 s.2.2).2 + 1)
def goesG (tr : List Adr) : SG → List Ou → Option SG
 | s, [] => some s
 | s, o :: l => match stepG tr s o with
  | none => none
  | some s' => goesG tr s' l
theorem goes_app (tr : List Adr) : ∀ (a b : List Ou) (s s' : SG), goesG tr s a = some s' → goesG tr s (a ++ b) = goesG tr s' b
 | [], b, s, s', h => by injection h with h; subst h; rfl
 | o :: a, b, s, s', h => by
  simp only [List.cons_append, goesG] at h ⊢
  split at h
  ·
   cases h
  ·
   exact goes_app tr a b _ s' h
theorem goes_idle (tr : List Adr) : ∀ (l : List Ou) (s : SG), begunL l = 0 → goesG tr s l = some s
 | [], s, _ => rfl
 | o :: l, s, h => by
  simp only [begunL] at h
  have h1 : ¬ (o.kind = 1 ∨ o.kind = 2) := by intro hc; rw [if_pos hc] at h; omega
  have h2 : stepG tr s o = some s := by unfold stepG; rw [if_pos ⟨fun e => h1 (.inl e), fun e => h1 (.inr e)⟩]
  simp only [goesG, h2]
  exact goes_idle tr l s (by omega)
def InG (x : Xc) (a l : Nat) : Prop := x.done = false → a < x.k ∨ (a = x.k ∧ l ≤ x.lg + 1)
def GoX (x : Xc) (L : Lt) (a l : Nat) (r : XR) : Prop := ∃ a' l', goesG x.tr (L, a, l) r.2.2 = some (r.2.1, a', l') ∧ InG r.1 a' l'
theorem legX_go {x : Xc} (h : x.st) (hd : x.done = false) (hk : x.k < x.tr.length) (L : Lt) (lg a l : Nat) (hlg : lg ≤ 2) (hal : a < x.k ∨ (a = x.k ∧ l ≤ lg)) : GoX x L a l (legX x L lg) := by
 have e0 := errP_leg h L
 have eN : newD (legY x L) = (⟨legY x L, putB 2 (octP (legY x L)).length ++ octP (legY x L), 0, false, [], Msg.zero⟩, [⟨2, (legY x L).sv, (legY x L).port, []⟩]) := by unfold newD; rw [if_pos e0]
 have hsv : (legY x L).sv = x.tr[x.k] := by
  show x.tr.getD x.k Adr.zero = _
  rw [List.getD_eq_getElem?_getD, List.getElem?_eq_getElem hk]; rfl
 obtain ⟨a', l', s1, s2, s3⟩ := seek_ok hk hsv.symm (x.tr.length + 1) a l (by omega) (by omega) (by intro e; omega)
 obtain ⟨i1, i2, _⟩ := draw_lt (drawL L 64512).2 (show (0 : Int) < 65536 by decide) |> fun h => (⟨h.1, h.2, trivial⟩ : _ ∧ _ ∧ True)
 have i3 : (legY x L).id ≤ 65535 := by show (drawL (drawL L 64512).2 65536).1 ≤ 65535; omega
 obtain ⟨f1, f2, f3, f4, f5, f6, f7, f8, f9⟩ := legX_f x L lg
 refine ⟨a', l' + 1, ?_, fun _ => ?_⟩
 ·
  have key : ∀ kd data, (kd = 1 ∨ kd = 2) → (kd = 1 → 2 ≤ data.length ∧ (numB (data.take 2) : Int) = (legY x L).id) → goesG x.tr (L, a, l) [⟨kd, (legY x L).sv, (legY x L).port, data⟩] = some (legL L, a', l' + 1) := by
   intro kd data h1 h2
   have hs : stepG x.tr (L, a, l) ⟨kd, (legY x L).sv, (legY x L).port, data⟩ = some (legL L, a', l' + 1) := by
    unfold stepG
    rw [if_neg (by rintro ⟨c1, c2⟩; exact h1.elim c1 c2)]
    rw [if_neg (by
     rintro (c | ⟨c1, c2⟩)
     ·
      exact c rfl
     ·
      obtain ⟨d1, d2⟩ := h2 c1
      rcases c2 with c2 | c2
      ·
       have c2 : data.length < 2 := c2
       omega
      ·
       exact c2 d2)]
    simp only
    rw [s1]
    simp only
    rw [if_neg (by omega)]
    rfl
   simp only [goesG, hs]
  by_cases h2 : lg = 2
  ·
   subst h2
   rw [legX_f x L 2 |>.2.2.2.2.2.2.2.2]
   have ho : (legX x L 2).2.2 = [⟨2, (legY x L).sv, (legY x L).port, []⟩] := by
    unfold legX
    rw [if_pos rfl, eN]
   rw [ho]
   exact key 2 [] (.inr rfl) (fun h => by cases h)
  ·
   have ho : (legX x L lg).2.2 = [⟨1, (legY x L).sv, (legY x L).port, (encM (askM x.q (legY x L).id (decide (lg = 0) && x.ed)) false).1⟩] := by
    unfold legX
    rw [if_neg h2]
   rw [f9, ho]
   exact key 1 _ (.inl rfl) (fun _ => ask_id (h.err _ _ i1 i3) i1 i3)
 ·
  rw [f3, f6]
  rcases s3 with ⟨e1, e2, e3⟩ | ⟨e1, e2⟩
  ·
   rcases hal with c | ⟨c1, c2⟩
   ·
    left; omega
   ·
    right; exact ⟨by omega, by omega⟩
  ·
   rcases Nat.lt_or_ge a' x.k with c | c
   ·
    left; exact c
   ·
    right; exact ⟨by omega, by omega⟩
theorem GoX.none {x y : Xc} {L : Lt} {a l : Nat} {o : List Ou} (ho : begunL o = 0) (h : InG y a l) : GoX x L a l (y, L, o) := ⟨a, l, goes_idle _ _ _ ho, h⟩
theorem tryX_go {x : Xc} (h : x.st) (hd : x.done = false) (L : Lt) (a l : Nat) (hal : a < x.k ∨ (a = x.k ∧ l = 0)) : GoX x L a l (tryX x L) := by
 unfold tryX
 split
 ·
  rename_i hk
  exact legX_go h hd hk L _ a l (by split <;> omega) (hal.imp id (fun h => ⟨h.1, by omega⟩))
 ·
  exact GoX.none rfl (fun h => by cases h)
theorem nextX_go {x : Xc} (h : x.st) (hd : x.done = false) (L : Lt) (a l : Nat) (hal : a ≤ x.k) : GoX x L a l (nextX x L) :=
 tryX_go (x := { x with k := x.k + 1 }) ⟨h.ips, h.to1, h.to2, h.trl, h.err⟩ hd L a l (.inl (by show a < x.k + 1; omega))
theorem InG.le {x : Xc} {a l : Nat} (h : InG x a l) (hd : x.done = false) : a ≤ x.k := by rcases h hd with h | h <;> omega
theorem toldX_go {x : Xc} (h : x.st) (hd : x.done = false) (hk : x.k < x.tr.length) (hlg : x.lg ≤ 2) (L : Lt) (m : Msg) (a l : Nat) (hi : InG x a l) : GoX x L a l (toldX x L m) := by
 have hle := hi.le hd
 unfold toldX
 split
 ·
  exact GoX.none rfl (fun h => by cases h)
 ·
  split
  ·
   rename_i hv
   have hc := verd_2 hv
   have hl : x.lg ≠ 2 := by simpa using hc
   exact legX_go h hd hk L 2 a l (Nat.le_refl _) ((hi hd).imp id (fun h => ⟨h.1, by omega⟩))
  ·
   split
   ·
    rename_i hv
    have hc := verd_3 hv
    have hl : x.lg = 0 := by
     unfold Xc.ednsB at hc
     simp at hc
     exact hc.1
    exact legX_go h hd hk L 1 a l (by omega) ((hi hd).imp id (fun h => ⟨h.1, by omega⟩))
   ·
    split
    ·
     exact nextX_go (x := { x with hard := true }) ⟨h.ips, h.to1, h.to2, h.trl, h.err⟩ hd L a l hle
    ·
     exact nextX_go h hd L a l hle
theorem GoX.app {x : Xc} {L : Lt} {a l : Nat} {r : XR} {o : List Ou} (ho : begunL o = 0) (h : GoX x L a l r) : GoX x L a l (appX o r) := by
 obtain ⟨a', l', h1, h2⟩ := h
 exact ⟨a', l', (goes_app x.tr o r.2.2 (L, a, l) (L, a, l) (goes_idle _ _ _ ho)).trans h1, h2⟩
theorem hearX_go {x : Xc} (ok : x.ok) (hlg : x.lg ≤ 2) (L : Lt) (e : Ev) (a l : Nat) (hi : InG x a l) : GoX x L a l (hearX x L e) := by
 cases hd : x.done with
 | true =>
  unfold hearX
  rw [if_pos hd]
  exact GoX.none rfl hi
 | false =>
 have h := ok.st hd
 have hk := (ok.go hd).1
 have hle := hi.le hd
 unfold hearX
 rw [if_neg (by rw [hd]; decide)]
 split
 ·
  split
  ·
   split
   ·
    exact GoX.app (begun_hang x.d) (nextX_go (x := { x with left := x.left - 1, d := (hangD x.d).1 }) ⟨h.ips, h.to1, h.to2, h.trl, h.err⟩ hd L a l hle)
   ·
    exact GoX.none rfl hi
  ·
   split
   ·
    exact GoX.app (begun_hear x.d e) (toldX_go (x := { x with d := (hearD x.d e).1 }) ⟨h.ips, h.to1, h.to2, h.trl, h.err⟩ hd hk hlg L _ a l hi)
   ·
    split
    ·
     exact GoX.app (begun_hear x.d e) (nextX_go (x := { x with d := (hearD x.d e).1 }) ⟨h.ips, h.to1, h.to2, h.trl, h.err⟩ hd L a l hle)
    ·
     exact GoX.none (begun_hear x.d e) hi
 ·
  split
  ·
   split
   ·
    exact nextX_go (x := { x with left := x.left - 1 }) ⟨h.ips, h.to1, h.to2, h.trl, h.err⟩ hd L a l hle
   ·
    exact GoX.none rfl hi
  ·
   split
   ·
    exact toldX_go h hd hk hlg L _ a l hi
   ·
    exact GoX.none rfl hi
theorem newX_go (tmo : Int) (vc ed : Bool) (q : Qn) (tr : List Adr) (L : Lt) (h : (encM (askM q 0 ed) false).2 = 0 → (startX tmo vc ed q tr).st) : GoX (startX tmo vc ed q tr) L 0 0 (newX tmo vc ed q tr L) := by
 unfold newX
 split
 ·
  exact GoX.none rfl (fun h => by cases h)
 ·
  rename_i he
  exact tryX_go (h (Decidable.not_not.1 he)) rfl L 0 0 (.inr ⟨rfl, rfl⟩)
end Go.Proofs.YthnbcmlnpdabhaaGreat
