/-
  Layer 23 (plan): held, Servers.
-/
import Derived.Test.YteimenplbanooaaGreatDoorRAQq
import Derived.OwnWalk
namespace Go.Proofs.YteimenplbanooaaGreatDoor
open _root_.Go.Proofs.Tryz
open Go.RowKit
set_option maxRecDepth 100000
set_option linter.unusedVariables false
set_option linter.unusedSimpArgs false
def RsRet (w0 : World) (r : Rs) (w : World) (e : Ending) (w' : World) : Prop := ∃ cs, e = .returned (.agg cs.toArray) ∧ RsO w0 w' cs r ∧ Below w.heap.size w w'
theorem RsO.len {w0 w : World} {cs : List Value} {r : Rs} (h : RsO w0 w cs r) : cs.length = 10 := by obtain ⟨_, _, _, rfl, _⟩ := h; rfl
theorem RsIs.len {w : World} {cs : List Value} {r : Rs} (h : RsIs w cs r) : cs.length = 10 := by obtain ⟨_, _, _, _, _, _, rfl, _⟩ := h; rfl
theorem RsIs.below {w w' : World} {cs : List Value} {r : Rs} (h : RsIs w cs r) (hb : Below w.heap.size w w') : RsIs w' cs r := by
 obtain ⟨A1, c1, A2, c2, A3, c3, h0, h1, h2, h3, l⟩ := h
 exact ⟨A1, c1, A2, c2, A3, c3, h0, h1.mono hb (fun _ _ h => h), nms_below h2 hb, h3.mono hb (fun _ _ h => h), l⟩
theorem RsO.below {w0 w w' : World} {cs : List Value} {r : Rs} (h : RsO w0 w cs r) (hb : Below w.heap.size w w') : RsO w0 w' cs r := by
 obtain ⟨v1, v2, v3, h0, h1, h2, h3⟩ := h
 exact ⟨v1, v2, v3, h0, LOwn.below h1 hb (fun _ _ h => h), LOwn.below h2 hb (fun _ _ h => h), LOwn.below h3 hb (fun _ _ h => h)⟩
theorem RsO.fr {S : Nat → Prop} {w0 w w' : World} {cs : List Value} {r : Rs} (h : RsO w0 w cs r) (hb : Fr S w w') : RsO w0 w' cs r := by
 obtain ⟨v1, v2, v3, h0, h1, h2, h3⟩ := h
 have k : ∀ e : TypeId, ¬ StTy e → ∀ {s n v xs}, w.ownsRow 0 e s v n xs → w'.ownsRow 0 e s v n xs := fun e he _ _ _ _ x => hb.own x he
 exact ⟨v1, v2, v3, h0, h1.stays (fun _ x => k _ (by unfold StTy; decide) x) (fun _ _ h => h), h2.stays (fun _ x => k _ (by unfold StTy; decide) x) (fun _ _ h => h), h3.stays (fun _ x => k _ (by unfold StTy; decide) x) (fun _ _ h => h)⟩
theorem RsO.is {w0 w : World} {cs : List Value} {r : Rs} (h : RsO w0 w cs r) (hw : Below w0.heap.size w0 w) (l1 : r.sv.length ≤ 17592186044416) (l2 : r.se.length ≤ 17592186044416) (l3 : r.so.length ≤ 17592186044416) : RsIs w cs r := by
 obtain ⟨v1, v2, v3, h0, h1, h2, h3⟩ := h
 obtain ⟨A1, c1, rfl⟩ := h1.form
 obtain ⟨A2, c2, rfl⟩ := h2.form
 obtain ⟨A3, c3, rfl⟩ := h3.form
 refine ⟨A1, c1, A2, c2, A3, c3, h0, h1.lin (fun _ _ h => h.len), ?_, h3.lin (fun _ _ h => by rw [h.1]; exact pfC_len h.2), l1, l2, l3⟩
 intro hp
 obtain ⟨b, off, k1, k2, k3⟩ := h2.lin (fun _ _ ⟨_, _, h, _⟩ => by rw [h]; rfl) hp
 refine ⟨b, off, k1, k2, fun i hi => ?_⟩
 obtain ⟨cs, k4, A, c, rfl, k5⟩ := k3 i hi
 exact ⟨A, c, by have := k4 0 _ rfl; simpa using this, k5.below hw⟩
theorem rs_build (A1 A2 A3 : Option Addr) (n1 c1 n2 c2 n3 c3 : Nat) (r : Rs) (W : World) : (Instr.build 42 #[(0, .agg (rsC (.slice A1 n1 c1) (.slice A2 n2 c2) (.slice A3 n3 c3) r).toArray)]).run prog W = .ok (.agg (rsC (.slice A1 n1 c1) (.slice A2 n2 c2) (.slice A3 n3 c3) r ++ [nilS, nilS, nilS]).toArray) W := by kernel_rfl
theorem fill_10v (a b c d e f g h i j v1 v2 v3 : Value) (W : World) : (Instr.field 42 (.agg ([a, b, c, d, e, f, g, h, i, j] ++ [v1, v2, v3]).toArray) 0).run prog W = .ok (.agg [a, b, c, d, e, f, g, h, i, j].toArray) W := by kernel_rfl
theorem fill_10 (cs : List Value) (h : cs.length = 10) (v1 v2 v3 : Value) (W : World) : (Instr.field 42 (.agg (cs ++ [v1, v2, v3]).toArray) 0).run prog W = .ok (.agg cs.toArray) W := by
 match cs, h with
 | [a, b, c, d, e, f, g, h, i, j], _ => exact fill_10v ..
theorem wpList_fld {P : Program} {ops : Array Oper} {rest : List Oper} {o : Oper} {a : Act} {w : World} {Q : Exit → Act → World → Prop} (hgd : o.guard = none) (t : TypeId) (x : Operand) (f : Nat) (ho : o.op = .field t x f) {v v' : Value} (hx : a.eval x = v) (hr : (Instr.field t v f).run P w = .ok v' w) (h : wpList P ops Q rest (a.put o.dst v') w) : wpList P ops Q (o :: rest) a w := by
 refine wpList_plain hgd fun K hK => ?_
 unfold Oper.wp execOp
 simp only [ho, hx, Sem.run_bind, hr, Result.andThen_ok, Sem.run_pure]
 exact hK _ _ h
theorem planHeld_any (w0 : World) (cs : List Value) (r : Rs) (w : World) (h : RsIs w0 cs r) (hw : Below w0.heap.size w0 w) : Calls prog 267 #[.agg cs.toArray] w (RsRet w0 (heldR r) w) := by
 have hl := h.len
 have HD := Hh (fun W hb => setHeld_any w0 cs r W h (below_then hw hw.size hb))
 have RB : Hid (∀ W, (Instr.build 42 #[(0, .agg cs.toArray)]).run prog W = .ok (.agg (cs ++ [nilS, nilS, nilS]).toArray) W) := Hh (fun W => by obtain ⟨A1, c1, A2, c2, A3, c3, rfl, _⟩ := h; exact rs_build ..)
 clear h hw
 have HX : Below w.heap.size w ((w.alloc (.cells cs.toArray 37)).alloc (.cells (rsC nilS nilS nilS ⟨[], [], [], 0, 0, 0, false, false, false, false⟩).toArray 37)) := ((Below.refl _ _).alloc (Nat.le_refl _) _).alloc (by simp) _
 have B1 := (Blk.new w 37 cs).alloc (.cells (rsC nilS nilS nilS ⟨[], [], [], 0, 0, 0, false, false, false, false⟩).toArray 37)
 have B2 := Blk.new' (w.alloc (.cells cs.toArray 37)) 37 (rsC nilS nilS nilS ⟨[], [], [], 0, 0, 0, false, false, false, false⟩) (w.heap.size + 1) (by simp)
 have hz : (rsC nilS nilS nilS ⟨[], [], [], 0, 0, 0, false, false, false, false⟩).length = 10 := rfl
 have hg : w.heap.size ≤ w.heap.size + 1 := by omega
 obtain ⟨W0, hW⟩ : ∃ W0, W0 = (w.alloc (.cells cs.toArray 37)).alloc (.cells (rsC nilS nilS nilS ⟨[], [], [], 0, 0, 0, false, false, false, false⟩).toArray 37) := ⟨_, rfl⟩
 have HW := Hh hW
 rw [← hW] at HX B1 B2
 clear hW
 go_enter func267, ntmps267
 go_wp2_with (first
  | (refine at_op (.load 37 (.tmp 1)) rfl ?_; go_must (refine wpList_ldB rfl _ _ rfl w.heap.size 0 rfl ((Blk.new w 37 cs).alloc _) 10 (by omega) _ underlying37 rfl rsI10 cs (tk0 (by omega)) ?_))
  | (refine at_op (.build 42 #[(0, .tmp 3)]) rfl ?_; go_must (refine wpList_bld rfl 42 _ rfl #[(0, .agg cs.toArray)] (by simp [Act.eval, Act.put]) (RB.out _) ?_)))
 refine (HD.out _ (by rw [HW.out] at HX; exact HX)).mono ?_
 rintro _ w1 ⟨cs1, v1, v2, v3, rfl, ho, b1⟩
 have b1' : Below W0.heap.size W0 w1 := by rw [HW.out]; exact b1
 have B2' := B2.below b1' B2.lt
 have H1 := below_then HX HX.size b1'
 have hl1 := ho.len
 have ho1 := Hh ho.one
 have HO := Hh ho
 clear b1 b1' B1 B2 ho HX HW HD RB
 generalize w.heap.size + 1 = g2 at *
 go_wp2_with (first
  | (refine at_op (.field 42 (.tmp 5) 0) rfl ?_; go_must (refine wpList_fld rfl 42 (.tmp 5) 0 rfl rfl (fill_10 cs1 hl1 v1 v2 v3 _) ?_))
  | (refine at_op (.store 37 (.tmp 2) (.tmp 6)) rfl ?_; go_must (refine wpList_stB rfl _ _ _ rfl g2 0 rfl cs1 rfl B2' (by omega) (by rw [hl1]; exact rsI10) ho1.out ?_)))
 intro w2 B3 g3 _
 have B3' := blkAll B3 (by omega)
 have H2 := below_grown H1 g3 H1.size hg
 go_wp2_with fail
 refine ret_cell rfl g2 rfl B3' _ underlying37 rfl (by rw [hl1]; exact rsI10) rfl ?_
 refine ⟨cs1, rfl, ?_, H2⟩
 obtain ⟨u1, u2, u3, h0, h1, h2, h3⟩ := HO.out
 exact ⟨u1, u2, u3, h0, h1.blk g3 B2' (by decide), h2.blk g3 B2' (by decide), h3.blk g3 B2' (by decide)⟩
def adsC (l : List Adr) : List Value := (l.map Adr.cells).flatten
theorem adsC_app (a b : List Adr) : adsC (a ++ b) = adsC a ++ adsC b := by simp [adsC]
theorem adsC_len : ∀ (l : List Adr), (∀ a ∈ l, a.ip.length = 16) → (adsC l).length = l.length * 18
 | [], _ => rfl
 | a :: l, h => by
  have h1 := adsC_len l (fun x hx => h x (List.mem_cons_of_mem _ hx))
  have h2 := a.cells_len (h a (List.mem_cons_self ..))
  show (a.cells ++ adsC l).length = _
  rw [List.length_append, h1, h2, List.length_cons]; omega
theorem adsC_one (l : List Adr) : ∀ v ∈ adsC l, v.oneCell' = true := by
 intro v hv
 obtain ⟨c, hc, hv⟩ := List.mem_flatten.1 hv
 obtain ⟨a, _, rfl⟩ := List.mem_map.1 hc
 exact a.cells_one v hv
theorem each_adI : ∀ {css : List (List Value)} {l : List Adr}, Each AdI css l → css.flatten = adsC l ∧ ∀ a ∈ l, a.ip.length = 16
 | [], [], _ => ⟨rfl, by simp⟩
 | cs :: css, a :: l, h => by
  obtain ⟨h1, h2⟩ := each_adI h.2
  obtain ⟨h3, h4⟩ := h.1
  refine ⟨?_, ?_⟩
  ·
   show cs ++ css.flatten = a.cells ++ adsC l
   rw [h1, h3]
  ·
   intro x hx
   rcases List.mem_cons.1 hx with rfl | hx
   ·
    exact h4
   ·
    exact h2 x hx
theorem each_mk : ∀ (l : List Adr), (∀ a ∈ l, a.ip.length = 16) → Each AdI (l.map Adr.cells) l
 | [], _ => trivial
 | a :: l, h => ⟨⟨rfl, h a (List.mem_cons_self ..)⟩, each_mk l (fun x hx => h x (List.mem_cons_of_mem _ hx))⟩
theorem AdsO.ip {w : World} {B : Nat} {v : Value} {l : List Adr} (h : AdsO w B v l) : ∀ a ∈ l, a.ip.length = 16 := by obtain ⟨css, _, h2⟩ := h; exact (each_adI h2).2
theorem AdsO.own {w : World} {B : Nat} {v : Value} {l : List Adr} (h : AdsO w B v l) : w.ownsRow B 24 18 v l.length (adsC l) := by obtain ⟨css, h1, h2⟩ := h; rw [(each_adI h2).1] at h1; exact h1
theorem AdsO.mk {w : World} {B : Nat} {v : Value} {l : List Adr} (h : w.ownsRow B 24 18 v l.length (adsC l)) (hi : ∀ a ∈ l, a.ip.length = 16) : AdsO w B v l := ⟨l.map Adr.cells, h, each_mk l hi⟩
theorem AdsO.piece {w : World} {B : Nat} {A : Option Addr} {c : Nat} {l : List Adr} (h : AdsO w B (.slice A l.length c) l) (k n : Nat) (hk : k + n ≤ l.length) (hl : 0 < l.length) : ∃ g, A = some ⟨g, 0, none⟩ ∧ g < w.heap.size ∧ w.rangeAt g (0 + k * 18) (adsC ((l.drop k).take n)) := by
 have hi := h.ip
 have ho := h.own
 obtain ⟨g, L, hA, hb, ht, _⟩ := own_range ho hl (adsC_len l hi)
 refine ⟨g, hA, hb.lt, ?_⟩
 have e : l = l.take k ++ ((l.drop k).take n ++ (l.drop k).drop n) := by rw [List.take_append_drop, List.take_append_drop]
 have h1 : (adsC (l.take k)).length = k * 18 := by rw [adsC_len _ (fun a ha => hi a (List.mem_of_mem_take ha))]; simp; omega
 have h2 : (adsC ((l.drop k).take n)).length = n * 18 := by rw [adsC_len _ (fun a ha => hi a (List.mem_of_mem_drop (List.mem_of_mem_take ha)))]; simp; omega
 have hsub : (L.drop (k * 18)).take (n * 18) = adsC ((l.drop k).take n) := by
  have e2 : (L.take (l.length * 18)).drop (k * 18) = (L.drop (k * 18)).take (l.length * 18 - k * 18) := List.drop_take ..
  have e3 : ((L.take (l.length * 18)).drop (k * 18)).take (n * 18) = adsC ((l.drop k).take n) := by
   rw [ht]
   conv => lhs; rw [e, adsC_app, adsC_app]
   rw [← h1, List.drop_left, ← h2, List.take_left]
  rw [e2, List.take_take, Nat.min_eq_left (by have := Nat.mul_le_mul_right 18 hk; rw [Nat.add_mul] at this; omega)] at e3
  exact e3
 rw [← hsub, Nat.zero_add]
 refine hb.range _ _ ?_
 have hLl : l.length * 18 ≤ L.length := by
  have := congrArg List.length ht
  rw [adsC_len l hi, List.length_take] at this; omega
 have := Nat.mul_le_mul_right 18 hk
 rw [Nat.add_mul] at this; omega
theorem own_cap {w : World} {B : Nat} {e : TypeId} {s : Nat} {A : Option Addr} {n c : Nat} {xs : List Value} (h : w.ownsRow B e s (.slice A n c) n xs) : n ≤ c := by
 rcases h.2 with ⟨h, h0⟩ | ⟨g, cap, cur, hv, _, _, hc, _⟩
 ·
  injection h with _ _ h; omega
 ·
  injection hv with _ _ h; omega
def turnAt (r : Rs) (turn : Int) : Nat := if r.ro then (IntKind.u64.wrap turn % (heldR r).sv.length).toNat else 0
def serversR (r : Rs) (turn : Int) : List Adr := (heldR r).sv.drop (turnAt r turn) ++ (heldR r).sv.take (turnAt r turn)
theorem held_sv (r : Rs) : 0 < (heldR r).sv.length ∧ (heldR r).sv.length ≤ 3 := by
 unfold heldR
 simp only
 split
 ·
  exact ⟨by simp, by simp⟩
 ·
  rename_i h
  refine ⟨List.length_pos_iff.2 h, ?_⟩
  unfold leftP; simp; omega
theorem turn_lt (r : Rs) (turn : Int) : turnAt r turn < (heldR r).sv.length := by
 have h := (held_sv r).1
 unfold turnAt
 split
 ·
  have h1 := Int.emod_lt_of_pos (IntKind.u64.wrap turn) (show (0 : Int) < (heldR r).sv.length by omega)
  have h2 := Int.emod_nonneg (IntKind.u64.wrap turn) (show ((heldR r).sv.length : Int) ≠ 0 by omega)
  omega
 ·
  exact h
theorem adInf : ∃ i, prog.info? 24 = some i ∧ i.zero = some (.agg Adr.zero.cells.toArray) ∧ i.size = 18 ∧ i.bytes = 32 := info_parts adInfo3
def AdsRet (l : List Adr) (w : World) (e : Ending) (w' : World) : Prop := ∃ v, e = .returned v ∧ AdsO w' 0 v l ∧ Below w.heap.size w w'
set_option maxHeartbeats 1000000 in
theorem servers_any (w0 : World) (cs : List Value) (r : Rs) (turn : Int) (w : World) (h : RsIs w0 cs r) (hw : Below w0.heap.size w0 w) : Calls prog 266 #[.agg cs.toArray, .int .i64 turn] w (AdsRet (serversR r turn) w) := by
 have hl := h.len
 have HD := Hh (fun W hb => planHeld_any w0 cs r W h (below_then hw hw.size hb))
 obtain ⟨hn0, hn3⟩ := held_sv r
 have hat := turn_lt r turn
 have HT : Hid (turnAt r turn = if r.ro then (IntKind.u64.wrap turn % (heldR r).sv.length).toNat else 0) := Hh rfl
 have HS : Hid (serversR r turn = (heldR r).sv.drop (turnAt r turn) ++ (heldR r).sv.take (turnAt r turn)) := Hh rfl
 have hro : (heldR r).ro = r.ro := rfl
 have HRO := Hh hro
 clear h hw hro
 generalize turnAt r turn = at_ at *
 have HB : Below w.heap.size w (w.alloc (.cells cs.toArray 37)) := (Below.refl _ _).alloc (Nat.le_refl _) _
 go_enter func266, ntmps266
 go_wp2_with (refine at_op (.load 37 (.tmp 2)) rfl ?_; go_must (refine wpList_ldB rfl _ _ rfl w.heap.size 0 rfl (Blk.new w 37 cs) 10 (by omega) _ underlying37 rfl rsI10 cs (tk0 (by omega)) ?_))
 refine (HD.out _ HB).mono ?_
 rintro _ w1 ⟨cs1, rfl, ho, b1⟩
 have B1 := (Blk.new w 37 cs).below b1 (Blk.new _ _ _).lt
 have H1 := below_then HB HB.size b1
 have hl1 := ho.len
 have ho1 := Hh ho.one
 have HO := Hh ho
 clear b1 ho HB HD
 go_wp2_with (refine at_op (.store 37 (.tmp 2) (.tmp 9)) rfl ?_; go_must (refine wpList_stB rfl _ _ _ rfl w.heap.size 0 rfl cs1 rfl B1 (by omega) (by rw [hl1]; exact rsI10) ho1.out ?_))
 intro w2 B3 g3 sw
 clear sw
 have B2 := blkAll B3 (by omega)
 have H2 := below_grown H1 g3 H1.size (Nat.le_refl _)
 obtain ⟨v1, v2, v3, hcs, p1, p2, p3⟩ := HO.out
 replace p1 := p1.blk g3 B1 (by decide)
 obtain ⟨A, c, hv⟩ := p1.form
 rw [hv] at p1 hcs
 have d0 := B2.cell_ 0 (u := .slice A (heldR r).sv.length c) (by rw [hcs]; rfl)
 have d6 := B2.cell_ 6 (u := .bool (heldR r).ro) (by rw [hcs]; rfl)
 rw [HRO.out] at d6
 clear hcs hv p2 p3 HO B3 g3 B1 H1 ho1 B2
 generalize (heldR r).sv = S at *
 have hwn : IntKind.u64.wrap (S.length : Int) = S.length := by rw [IntKind.wrap_u64]; exact Int.emod_eq_of_lt (by omega) (by omega)
 have DV := Hh (draw_val turn S.length (by omega) (by omega))
 have hn0' : ¬ (S.length : Int) = 0 := by omega
 have hn0'' : (0 : Int) < S.length := by omega
 have hn1 : decide (0 < S.length) = true := by simpa using hn0
 go_upto_region 4 with fail
 go_cut [18] (fun v wx => v = .bool r.ro ∧ wx = w2)
 case first =>
  cases hro : r.ro with
  | true =>
   rw [hro] at d6
   go_wp2_with fail
   go_meet
   case rel => exact ⟨by rw [hro], rfl⟩
  | false =>
   rw [hro] at d6
   go_wp2_with fail
   go_meet
   case rel => exact ⟨by rw [hro], rfl⟩
 obtain ⟨rfl, rfl⟩ := hcut
 go_upto_if 18 with fail
 go_cut [6] (fun v wx => v = .int .i64 at_ ∧ wx = wc)
 case first =>
  cases hro : r.ro with
  | true =>
   rw [hro] at HT d6
   clear hro HRO
   go_wp2_with fail
   go_meet
   case rel =>
    refine ⟨?_, rfl⟩
    rw [DV.out]
    have h1 := Int.emod_nonneg (IntKind.u64.wrap turn) (show (S.length : Int) ≠ 0 by omega)
    have h2 := HT.out
    simp only [if_true] at h2
    rw [h2, Int.toNat_of_nonneg h1]
  | false =>
   rw [hro] at HT d6
   clear hro HRO
   go_wp2_with fail
   go_meet
   case rel =>
    have h2 := HT.out
    simp only [Bool.false_eq_true, if_false] at h2
    exact ⟨by rw [h2]; rfl, rfl⟩
 case rest =>
  obtain ⟨rfl, rfl⟩ := hcut
  clear d6 HT DV hwn hn1
  obtain ⟨ai, ai1, ai2, ai3, ai4⟩ := adInf
  go_wp2_with (refine at_op (.makeSlice 33 (.const (.int .i64 0)) (.tmp 25)) rfl ?_; go_must (refine wpList_make_own wc rfl _ _ 33 rfl wc.heap.size 24 ai _ 18 underlying33 ai1 ai2 ai3 .i64 .i64 (S.length : Int) S.length rfl rfl rfl (by rw [ai4]; omega) (by simp only [maxLen]; omega) (Nat.le_refl _) ?_))
  intro w3 o3 g3
  have K3 : Below wc.heap.size wc w3 := ⟨g3.os, g3.tape, g3.output, g3.size, fun i hi => g3.block i hi (by simp)⟩
  have p3 := LOwn.below (R' := AdI) p1 K3 (fun _ _ h => h)
  have e0 : w3.cell? ⟨w.heap.size, 0, none⟩ = some (.slice A S.length c) := by
   rw [← d0]; exact K3.cell (p := ⟨w.heap.size, 0, none⟩) (cell_lt d0)
  have H3 := below_then H2 H2.size K3
  obtain ⟨gs, hA, hgs, hr1⟩ := AdsO.piece p1 at_ (S.length - at_) (by omega) (by omega)
  obtain ⟨_, hA2, _, hr2⟩ := AdsO.piece p1 0 at_ (by omega) (by omega)
  rw [hA] at hA2
  injection hA2 with hA2; injection hA2 with hA2; subst hA2
  subst hA
  have hsz3 := K3.size
  have hwlt : w.heap.size < wc.heap.size := cell_lt d0
  replace hr1 := range_below hr1 K3 hgs
  replace hr2 := range_below hr2 K3 hgs
  rw [Nat.zero_add] at hr1
  rw [Nat.zero_mul, Nat.add_zero] at hr2
  have hip := AdsO.ip p3
  have hcap := own_cap (AdsO.own p3)
  have hca : ¬ c = at_ := by omega
  have hac : at_ ≤ c := by omega
  have hac' : (at_ : Int) ≤ c := by omega
  have hwc : w.heap.size ≤ wc.heap.size := H2.size
  have l1 : (adsC ((S.drop at_).take (S.length - at_))).length = (S.length - at_) * 18 := by rw [adsC_len _ (fun a ha => hip a (List.mem_of_mem_drop (List.mem_of_mem_take ha)))]; simp
  have l2 : (adsC ((S.drop 0).take at_)).length = at_ * 18 := by rw [adsC_len _ (fun a ha => hip a (List.mem_of_mem_drop (List.mem_of_mem_take ha)))]; simp; omega
  have hsum : S.length - at_ + at_ = S.length := by omega
  have FIN : Hid (adsC ((S.drop at_).take (S.length - at_)) ++ adsC ((S.drop 0).take at_) = adsC (serversR r turn) ∧ (serversR r turn).length = S.length ∧ ∀ a ∈ serversR r turn, a.ip.length = 16) := Hh (by
   rw [HS.out]
   refine ⟨?_, by simp; omega, ?_⟩
   ·
    rw [← adsC_app, List.drop_zero, List.take_of_length_le (by simp)]
   ·
    intro a ha
    rcases List.mem_append.1 ha with h | h
    ·
     exact hip a (List.mem_of_mem_drop h)
    ·
     exact hip a (List.mem_of_mem_take h))
  have o1 := adsC_one ((S.drop at_).take (S.length - at_))
  have o2 := adsC_one ((S.drop 0).take at_)
  clear K3 g3 d0 p1 ai1 ai2 ai3 ai4 hip hcap
  generalize adsC ((S.drop at_).take (S.length - at_)) = N1 at *
  generalize adsC ((S.drop 0).take at_) = N2 at *
  go_wp2_with (at_builtin; go_must (refine wpList_appG w3 rfl (.tmp 27) (.tmp 31) 33 rfl 24 _ 18 32 underlying33 adInfo3 (by kernel_rfl) (by decide) wc.heap.size _ 0 [] rfl o3 hsz3 (some ⟨gs, at_ * 18, none⟩) (S.length - at_) (c - at_) N1 (by simp [Act.eval, hca]) (fun _ => ⟨gs, at_ * 18, rfl, hr1⟩) l1 o1 (by simp only [maxLen]; omega) (by omega) _ rfl ?_))
  intro A4 c4 w4 o4 g4
  have g4' : w3.grownBy w4 (some wc.heap.size) := g4
  have hr2' : w4.rangeAt gs 0 N2 := fun j v hv => by rw [← hr2 j v hv]; exact grown_cell g4' ⟨gs, _, none⟩ (by simp; omega) (by simp; omega)
  have e0' : w4.cell? ⟨w.heap.size, 0, none⟩ = some (.slice (some ⟨gs, 0, none⟩) S.length c) := by rw [← e0]; exact grown_cell g4' ⟨w.heap.size, 0, none⟩ (by simp; omega) (by simp; omega)
  have H4 := below_grown H3 g4' H3.size hwc
  have hsz4 := g4'.size
  clear g4 g4' e0 hr1 hr2 o3 H3 hca
  go_wp2_with (at_builtin; go_must (refine wpList_appG w4 rfl (.tmp 33) (.tmp 37) 33 rfl 24 _ 18 32 underlying33 adInfo3 (by kernel_rfl) (by decide) wc.heap.size _ (S.length - at_) N1 (by simp [Act.eval]) o4 (Nat.le_trans hsz3 hsz4) (some ⟨gs, 0, none⟩) at_ c N2 (by simp [Act.eval]) (fun _ => ⟨gs, 0, rfl, hr2'⟩) l2 o2 (by simp only [maxLen]; omega) (by omega) S.length hsum.symm ?_))
  intro A5 c5 w5 o5 g5
  have H5 := (H4.grown g5 (Nat.le_trans hwc (Nat.le_trans hsz3 hsz4)) (fun k hk => Nat.le_trans hwc (own_base o4 k hk)))
  clear g5
  go_wp2_with fail
  go_ret
  obtain ⟨f1, f2, f3⟩ := FIN.out
  refine ⟨_, rfl, AdsO.mk ?_ f3, H5⟩
  rw [f2, ← f1]
  exact own_zero o5
def TryI (cs : List Value) (a : Adr) : Prop := ∃ r : Int, cs = a.cells ++ [.int .i64 r] ∧ a.ip.length = 16
theorem TryI.len {cs : List Value} {a : Adr} (h : TryI cs a) : cs.length = 19 := by obtain ⟨r, rfl, h⟩ := h; simp [a.cells_len h]
abbrev TrysO (w : World) (B : Nat) (v : Value) (l : List Adr) : Prop := LOwn w B 380 19 TryI v l
def tryZ : List Value := Adr.zero.cells ++ [.int .i64 0]
theorem tryInfo3 : (prog.info? 380).map (fun i => (i.zero, i.size, i.bytes)) = some (some (.agg tryZ.toArray), 19, 40) := by kernel_rfl
theorem run_btry16 (fam zone r : Int) (b0 b1 b2 b3 b4 b5 b6 b7 b8 b9 b10 b11 b12 b13 b14 b15 : UInt8) (W : World) :
  (Instr.build 380 #[(0, .agg (Adr.cells ⟨fam, [b0, b1, b2, b3, b4, b5, b6, b7, b8, b9, b10, b11, b12, b13, b14, b15], zone⟩).toArray), (1, .int .i64 r)]).run prog W = .ok (.agg (Adr.cells ⟨fam, [b0, b1, b2, b3, b4, b5, b6, b7, b8, b9, b10, b11, b12, b13, b14, b15], zone⟩ ++ [Value.int .i64 r]).toArray) W := by
 kernel_rfl
theorem run_btry (a : Adr) (r : Int) (h : a.ip.length = 16) (W : World) : (Instr.build 380 #[(0, .agg a.cells.toArray), (1, .int .i64 r)]).run prog W = .ok (.agg (a.cells ++ [Value.int .i64 r]).toArray) W := by
 obtain ⟨fam, ip, zone⟩ := a
 have h' : ip.length = 16 := h
 clear h
 match ip, h' with
 | [b0, b1, b2, b3, b4, b5, b6, b7, b8, b9, b10, b11, b12, b13, b14, b15], _ => exact run_btry16 fam zone r b0 b1 b2 b3 b4 b5 b6 b7 b8 b9 b10 b11 b12 b13 b14 b15 W
theorem rs_fld5 (n : Int) (a b c d e g h i j : Value) (W : World) : (Instr.field 37 (.agg [a, b, c, d, e, .int .i64 n, g, h, i, j].toArray) 5).run prog W = .ok (.int .i64 n) W := by kernel_rfl
def roundsA (l : List Adr) : Nat → List Adr
 | 0 => []
 | k + 1 => roundsA l k ++ l
theorem roundsA_len (l : List Adr) : ∀ k, (roundsA l k).length = k * l.length
 | 0 => by simp [roundsA]
 | k + 1 => by rw [roundsA, List.length_append, roundsA_len l k, Nat.add_mul, Nat.one_mul]
def triesR (r : Rs) (turn : Int) : List Adr := roundsA (serversR r turn) (heldR r).at_.toNat
theorem servers_len (r : Rs) (turn : Int) : (serversR r turn).length = (heldR r).sv.length := by
 have := turn_lt r turn
 unfold serversR; simp; omega
theorem att_le (r : Rs) : 1 ≤ (heldR r).at_ ∧ (heldR r).at_ ≤ 5 := by
 show 1 ≤ min (max r.at_ 1) 5 ∧ min (max r.at_ 1) 5 ≤ 5
 omega
theorem tmo_le (r : Rs) : 1 ≤ (heldR r).tmo ∧ (heldR r).tmo ≤ 30 := by
 show 1 ≤ min (max r.tmo 1) 30 ∧ min (max r.tmo 1) 30 ≤ 30
 omega
def TrysRet (l : List Adr) (w : World) (e : Ending) (w' : World) : Prop := ∃ v, e = .returned v ∧ TrysO w' 0 v l ∧ Below w.heap.size w w'
set_option maxHeartbeats 1000000 in
theorem tries_any (w0 : World) (cs : List Value) (r : Rs) (turn : Int) (w : World) (h : RsIs w0 cs r) (hw : Below w0.heap.size w0 w) : Calls prog 225 #[.agg cs.toArray, .int .i64 turn] w (TrysRet (triesR r turn) w) := by
 have hl := h.len
 have HD := Hh (fun W hb => planHeld_any w0 cs r W h (below_then hw hw.size hb))
 have SD := Hh (fun W hb => servers_any w0 cs r turn W h (below_then hw hw.size hb))
 have HT : Hid (triesR r turn = roundsA (serversR r turn) (heldR r).at_.toNat) := Hh rfl
 have hsl := servers_len r turn
 have hs3 := (held_sv r).2
 obtain ⟨ha1, ha2⟩ := att_le r
 obtain ⟨na, hna⟩ : ∃ na : Nat, (heldR r).at_ = na := ⟨(heldR r).at_.toNat, by omega⟩
 rw [hna] at HT ha1 ha2
 rw [Int.toNat_natCast] at HT
 rw [← hsl] at hs3
 have HNA := Hh hna
 clear h hw hsl hna
 generalize serversR r turn = S at *
 have HB : Below w.heap.size w (w.alloc (.cells cs.toArray 37)) := (Below.refl _ _).alloc (Nat.le_refl _) _
 have B0 := Blk.new w 37 cs
 go_enter func225, ntmps225
 go_wp2_with (refine at_op (.load 37 (.tmp 2)) rfl ?_; go_must (refine wpList_ldB rfl _ _ rfl w.heap.size 0 rfl B0 10 (by omega) _ underlying37 rfl rsI10 cs (tk0 (by omega)) ?_))
 refine (SD.out _ HB).mono ?_
 rintro _ w1 ⟨vS, rfl, oS, b1⟩
 replace B0 := B0.below b1 B0.lt
 have H1 := below_then HB HB.size b1
 clear b1 HB SD
 go_wp2_with (refine at_op (.load 37 (.tmp 2)) rfl ?_; go_must (refine wpList_ldB rfl _ _ rfl w.heap.size 0 rfl B0 10 (by omega) _ underlying37 rfl rsI10 cs (tk0 (by omega)) ?_))
 refine (HD.out _ H1).mono ?_
 rintro _ w2 ⟨cs1, rfl, ho, b2⟩
 have H2 := below_then H1 H1.size b2
 replace oS := LOwn.below (R' := AdI) oS b2 (fun _ _ h => h)
 have F5 : Hid (∀ W, (Instr.field 37 (.agg cs1.toArray) 5).run prog W = .ok (.int .i64 na) W) := Hh (fun W => by
  obtain ⟨v1, v2, v3, rfl, _⟩ := ho
  rw [← HNA.out]
  exact rs_fld5 ..)
 clear b2 ho H1 HD B0 HNA
 obtain ⟨A, c, hv⟩ := oS.form
 subst hv
 go_wp2_with (refine at_op (.field 37 (.tmp 14) 5) rfl ?_; go_must (refine wpList_fld rfl 37 (.tmp 14) 5 rfl rfl (F5.out _) ?_))
 go_loopw [6, 16] (fun kv iv wr => ∃ k : Nat, k ≤ na ∧ iv = .int .i64 k ∧ TrysO wr w.heap.size kv (roundsA S k) ∧ AdsO wr 0 (.slice A S.length c) S ∧ Below w.heap.size w wr) (fun _ iv _ => na - (intOf iv).toNat)
 case atStart => exact ⟨0, Nat.zero_le _, rfl, LOwn.nil _ _ _ _ _, oS, H2⟩
 clear oS H2
 obtain ⟨k, hk, rfl, ho, oS, hB⟩ := hrel
 by_cases hlt : k < na
 case neg =>
  have hlt' : ¬ (k : Int) < na := by omega
  go_wp2_with fail
  go_ret
  refine ⟨_, rfl, ?_, hB⟩
  rw [HT.out, show na = k by omega]
  exact LOwn.zero ho
 have hlt' : (k : Int) < na := by omega
 obtain ⟨Ak, ck, hv⟩ := ho.form
 subst hv
 have hb3 : k * S.length ≤ 15 := by
  have h1 : k * S.length ≤ 4 * 3 := Nat.mul_le_mul (by omega) hs3
  omega
 have hrl : (roundsA S k).length ≤ 15 := by rw [roundsA_len]; exact hb3
 have HR : Hid (roundsA S (k + 1) = roundsA S k ++ S) := Hh rfl
 obtain ⟨wo, hwo⟩ : ∃ wo : World, wr = wo := ⟨_, rfl⟩
 subst hwo
 generalize roundsA S k = R at *
 go_wp2_with fail
 go_loopw [6, 21] (fun kv iv wx => ∃ j : Nat, j ≤ S.length ∧ iv = .int .i64 j ∧ TrysO wx w.heap.size kv (R ++ S.take j) ∧ AdsO wx 0 (.slice A S.length c) S ∧ Below w.heap.size w wx) (fun _ iv _ => S.length - (intOf iv).toNat)
 case atStart => exact ⟨0, Nat.zero_le _, rfl, by simpa using ho, oS, hB⟩
 clear ho oS hB
 obtain ⟨j, hj, rfl, ho, oS, hB⟩ := hrel
 by_cases hjl : j < S.length
 case neg =>
  have hjl' : ¬ (j : Int) < S.length := by omega
  rw [List.take_of_length_le (by omega)] at ho
  go_wp2_with fail
  go_roundw
  case rel => exact ⟨k + 1, by omega, by go_num, by rw [HR.out]; exact ho, oS, hB⟩
  case measure => simp [intOf]; omega
 have hjl' : (j : Int) < S.length := by omega
 have hle : (R ++ S.take j).length + 1 ≤ 100 := by simp; omega
 obtain ⟨Q, hQ⟩ : ∃ Q, Hid (R ++ S.take j = Q) := ⟨_, Hh rfl⟩
 rw [hQ.out] at ho hle
 obtain ⟨Aj, cj, hv⟩ := ho.form
 subst hv
 obtain ⟨gs, hA, hgs, hr⟩ := oS.at_ (fun _ _ h => h.len) (by omega)
 obtain ⟨cx, hcx, hce, hip⟩ := hr j hjl
 have hcl : cx.length = 18 := AdI.len ⟨hce, hip⟩
 have hone : ∀ v ∈ cx, v.oneCell' = true := by rw [hce]; exact Adr.cells_one _
 have RB : Hid (∀ W, (Instr.build 380 #[(0, .agg cx.toArray), (1, .int .i64 k)]).run prog W = .ok (.agg (cx ++ [Value.int .i64 k]).toArray) W) := Hh (fun W => by rw [hce]; exact run_btry _ _ hip W)
 have TI : Hid (TryI (cx ++ [Value.int .i64 k]) S[j]) := Hh ⟨k, by rw [hce], hip⟩
 have HS : Hid (S.take (j + 1) = S.take j ++ [S[j]]) := Hh (List.take_succ_eq_append_getElem hjl)
 have htl : (cx ++ [Value.int .i64 k]).length = 19 := by simp [hcl]
 have hto : ∀ v ∈ cx ++ [Value.int .i64 k], v.oneCell' = true := by
  intro v hv
  rcases List.mem_append.1 hv with h | h
  ·
   exact hone v h
  ·
   simp at h; subst h; rfl
 have HO := Hh ho
 have HOS := Hh oS
 rw [Nat.zero_add] at hcx
 subst hA
 have hadz : (Adr.zero.cells).length = 18 := Adr.zero.cells_len rfl
 have W1 : Below wr.heap.size wr (wr.alloc (.cells Adr.zero.cells.toArray 24)) := (Below.refl _ _).alloc (Nat.le_refl _) _
 clear hce hip hr ho oS
 obtain ⟨tc, htc⟩ : ∃ tc, cx ++ [Value.int .i64 k] = tc := ⟨_, rfl⟩
 rw [htc] at RB TI htl hto
 clear htc
 go_wp2_with (first
  | (refine at_op (.load 24 (.tmp 23)) rfl ?_; go_must (refine wpList_ldR rfl 24 (.tmp 23) rfl gs (j * 18) rfl cx hcx _ underlying24 rfl (by rw [hcl]; exact adI18) ?_))
  | (refine at_op (.store 24 (.tmp 9) (.tmp 24)) rfl ?_; go_must (refine wpList_stB rfl _ _ _ rfl wr.heap.size 0 rfl cx rfl (Blk.new wr 24 Adr.zero.cells) (by omega) (by rw [hcl]; exact adI18) hone ?_)))
 intro w3 B3 g3 sw
 clear sw
 have B3' := blkAll B3 (by omega)
 have K3 := below_grown W1 g3 W1.size (Nat.le_refl _)
 clear B3 g3 W1 hcx
 go_wp2_with (first
  | (refine at_op (.load 24 (.tmp 9)) rfl ?_; go_must (refine wpList_ldB rfl _ _ rfl wr.heap.size 0 rfl B3' 18 (by omega) _ underlying24 rfl adI18 cx (tk0 (by omega)) ?_))
  | (refine at_op (.build 380 #[(0, .tmp 26), (1, .tmp 27)]) rfl ?_; go_must (refine wpList_bld rfl 380 _ rfl #[(0, .agg cx.toArray), (1, .int .i64 k)] (by simp [Act.eval, Act.put]) (RB.out _) ?_))
  | (refine at_op (.buildSlice 325 1 #[(0, .tmp 28)]) rfl ?_; go_must (refine wpList_bsN rfl 325 380 _ 19 40 underlying325 tryInfo3 (by decide) (by decide) (.tmp 28) rfl tc rfl htl ?_)))
 intro w4 B4 K4
 have K5 := below_then K3 K3.size K4
 have O4 := LOwn.below (R' := TryI) HO.out K5 (fun _ _ h => h)
 have N4 := HO.out.ne K3.size
 have S4 := LOwn.below (R' := AdI) HOS.out K5 (fun _ _ h => h)
 have H4 := below_then hB hB.size K5
 have hszz := K4.size
 clear HO HOS K3 K4 K5 B3' hB
 go_wp2_with (at_builtin; go_must (refine wpList_app1 _ rfl _ _ 325 rfl 380 _ 19 40 underlying325 tryInfo3 (by kernel_rfl) (by decide) w.heap.size _ _ rfl O4 H4.size w3.heap.size tc S[j] rfl B4 N4 htl hto TI.out (by simp only [maxLen]; omega) (by omega) ?_))
 intro v5 w5 O5 g5
 have hbs := O4.base
 have S5 : AdsO w5 0 (.slice (some ⟨gs, 0, none⟩) S.length c) S := by
  obtain ⟨_, o4, _⟩ := O4
  exact S4.stays (fun _ x => own_own x o4 (by decide) g5) (fun _ _ x => x)
 have H5 := H4.grown g5 H4.size hbs
 clear g5 O4 S4 H4 B4 N4
 go_wp2_with fail
 go_roundw
 case rel => exact ⟨j + 1, by omega, by go_num, by rw [HS.out, ← List.append_assoc, hQ.out]; exact O5, S5, H5⟩
 case measure => simp [intOf]; omega
def mostR (r : Rs) : Nat := 3 * (triesR r 0).length
def ticksR (r : Rs) : Nat := (heldR r).tmo.toNat * mostR r
theorem tries_len (r : Rs) (turn : Int) : (triesR r turn).length = (heldR r).at_.toNat * (heldR r).sv.length := by unfold triesR; rw [roundsA_len, servers_len]
theorem tries_le (r : Rs) (turn : Int) : 1 ≤ (triesR r turn).length ∧ (triesR r turn).length ≤ 15 := by
 rw [tries_len]
 obtain ⟨h1, h2⟩ := held_sv r
 obtain ⟨h3, h4⟩ := att_le r
 exact ⟨Nat.mul_pos (by omega) h1, Nat.le_trans (Nat.mul_le_mul (show (heldR r).at_.toNat ≤ 5 by omega) h2) (by decide)⟩
theorem exec_fld {P : Program} {w : World} {o : Oper} {a : Act} (t : TypeId) (x : Operand) (f : Nat) (ho : o.op = .field t x f) {v v' : Value} (hx : a.eval x = v) (hr : (Instr.field t v f).run P w = .ok v' w) : (execOp a.eval o).run P w = .ok (.value v') w := by
 unfold execOp
 simp only [ho, hx, Sem.run_bind, hr, Result.andThen_ok, Sem.run_pure]
end Go.Proofs.YteimenplbanooaaGreatDoor
