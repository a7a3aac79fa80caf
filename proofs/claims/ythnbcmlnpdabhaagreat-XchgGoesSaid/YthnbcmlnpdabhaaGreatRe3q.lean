/-
  Layer 21, the reference (setup): Resolv.
-/
import Derived.Test.YthnbcmlnpdabhaaGreatIDq
namespace Go.Proofs.YthnbcmlnpdabhaaGreat
open _root_.Go.Proofs.Tryz
open Go.RowKit
set_option maxRecDepth 100000
set_option linter.unusedVariables false
set_option linter.unusedSimpArgs false
theorem of127 (w : World) : Calls prog 71 #[.int .i64 127, .int .i64 0, .int .i64 0, .int .i64 1] w (RetB (.agg (quadA 127 0 0 1).cells.toArray) w) := by
 have B2 := Blk.new w 24 Adr.zero.cells
 have CB : Below w.heap.size w (w.alloc (.cells Adr.zero.cells.toArray 24)) := (Below.refl _ _).alloc (Nat.le_refl _) _
 go_enter func71, ntmps71
 go_wp2_with (refine at_op (.store 24 (.tmp 8) (.tmp 18)) rfl ?_; go_must (refine wpList_stB rfl _ _ _ rfl w.heap.size 0 rfl (quadA 127 0 0 1).cells rfl B2 (by decide) adI18 (Adr.cells_one _) ?_))
 intro w3 B3 g3 _
 replace B3 : Blk w3 w.heap.size 24 (quadA 127 0 0 1).cells := B3
 have HB3 := below_grown CB g3 CB.size (Nat.le_refl _)
 clear g3 CB B2
 go_wp2_with fail
 refine ret_cell rfl w.heap.size rfl B3 _ underlying24 rfl adI18 rfl ?_
 exact RetB.mk rfl HB3
theorem slI1 : (prog.info? 65).map (·.size) = some 1 := by kernel_rfl
theorem slI2 : (prog.info? 67).map (·.size) = some 1 := by kernel_rfl
def RvRet (r : Rs) (w : World) (e : Ending) (w' : World) : Prop := ∃ A c A2 n2 c2 A3 n3 c3, e = .returned (.agg (rsC (.slice A (heldR r).sv.length c) (.slice A2 n2 c2) (.slice A3 n3 c3) (heldR r)).toArray) ∧ AdsO w' 0 (.slice A (heldR r).sv.length c) (heldR r).sv ∧ Below w.heap.size w w'
theorem run_appL {P : Program} {α : Type} {R : List Value → α → Prop} (w : World) (t ty : TypeId) (e : TypeId) (z : Value) (size bytes : Nat) (ht : P.underlying t = some (.slice e)) (hi : (P.info? e).map (fun i => (i.zero, i.size, i.bytes)) = some (some z, size, bytes)) (hzs : z.cells.size = size) (hsz : 0 < size)
  (B : Nat) (v : Value) (l : List α) (h : LOwn w B e size R v l) (hB : B ≤ w.heap.size) (g : Nat) (cs : List Value) (x : α) (hb : Blk w g e cs) (hl : cs.length = size) (h1 : ∀ u ∈ cs, u.oneCell' = true) (hr : R cs x) (h63 : l.length + 1 ≤ maxLen) (hbytes : (l.length + 1) * bytes ≤ 140737488355328) :
  ∃ v' w', (Builtin.append_ #[t, t] ty #[v, .slice (some ⟨g, 0, none⟩) 1 1]).run P w = .ok v' w' ∧ LOwn w' B e size R v' (l ++ [x]) ∧ w.grownBy w' v.ownBlock := by
 obtain ⟨css, hown, hE⟩ := h
 obtain ⟨v', w', hr', h2, h3⟩ := run_appG w t ty e z size bytes ht hi hzs hsz B v l.length css.flatten hown hB (some ⟨g, 0, none⟩) 1 1 cs (fun _ => ⟨g, 0, rfl, fun j u hu => by rw [Nat.zero_add]; exact hb.cell_ j hu⟩) (by omega) h1 h63 hbytes
 exact ⟨v', w', hr', LOwn.app1 (v := v) hE h2 hr, h3⟩
theorem LOwn.keep {α : Type} {R : List Value → α → Prop} {w w' : World} {B : Nat} {e t : TypeId} {k g : Nat} {v : Value} {l : List α} {cs : List Value} (h : LOwn w B e k R v l) (hb : Blk w g t cs) (hne : t ≠ e) (hg : w.grownBy w' v.ownBlock) : Blk w' g t cs := by
 obtain ⟨css, ow, _⟩ := h
 exact blk_own hb ow hne hg
theorem Blk.setI {w : World} {g i : Nat} {t : TypeId} {cs cs' : List Value} {X Y : Int} (hb : Blk w g t cs) (h : X = Y) (hc : cs.set i (.int .i64 Y) = cs') : Blk (w.setCell ⟨g, i, none⟩ (.int .i64 X)) g t cs' := by
 subst h
 exact hc ▸ hb.set i _
theorem LOwn.keepL {α β : Type} {R : List Value → α → Prop} {R2 : List Value → β → Prop} {w w' : World} {B B2 : Nat} {e e2 : TypeId} {k k2 : Nat} {v v2 : Value} {l : List α} {l2 : List β} (h : LOwn w B e k R v l) (h2 : LOwn w B2 e2 k2 R2 v2 l2) (hne : e2 ≠ e) (hg : w.grownBy w' v.ownBlock) : LOwn w' B2 e2 k2 R2 v2 l2 := by
 obtain ⟨css, ⟨h0, ho⟩, hE⟩ := h2
 refine ⟨css, ⟨h0, ?_⟩, hE⟩
 rcases ho with ho | ⟨g, cap, cur, hv, hB, hb, r⟩
 ·
  exact .inl ho
 ·
  exact .inr ⟨g, cap, cur, hv, hB, h.keep (g := g) (t := e2) (cs := cur.toList) hb hne hg, r⟩
set_option maxHeartbeats 8000000 in
theorem refResolv_any (cs0 : List Value) (r : Rs) (w : World) (h : RsIs w cs0 r) : Calls prog 91 #[.agg cs0.toArray] w (RvRet r w) := by
 obtain ⟨A1, c1, A2, c2, A3, c3, hcs0, h1, h2, h3, l1, l2, l3⟩ := h
 have NM := Hh (fun W (hW : Below w.heap.size w W) => refNames_any w A2 c2 r.se 6 W h2 hW l2 (by decide))
 have OF := Hh (fun W => of127 W)
 obtain ⟨cs, hcs⟩ : ∃ cs, Hid (cs = rsC (.slice A1 r.sv.length c1) (.slice A2 r.se.length c2) (.slice A3 r.so.length c3) r) := ⟨_, Hh rfl⟩
 rw [← hcs.out] at hcs0
 subst hcs0
 have hcl : cs0.length = 10 := by rw [hcs.out]; rfl
 obtain ⟨cs, hcc⟩ : ∃ cs, cs = cs0 := ⟨_, rfl⟩
 rw [← hcc] at hcs hcl ⊢
 clear hcc
 have hco : ∀ v ∈ cs, v.oneCell' = true := by rw [hcs.out]; intro v hv; unfold rsC at hv; simp only [List.mem_cons, List.not_mem_nil, or_false] at hv; rcases hv with rfl | rfl | rfl | rfl | rfl | rfl | rfl | rfl | rfl | rfl <;> rfl
 obtain ⟨rz, hrz⟩ : ∃ rz, rz = rsC nilS nilS nilS ⟨[], [], [], 0, 0, 0, false, false, false, false⟩ := ⟨_, rfl⟩
 have hzl : rz.length = 10 := by rw [hrz]; rfl
 have HX : Below w.heap.size w (((w.alloc (.cells cs.toArray 69)).alloc (.cells rz.toArray 69)).alloc (.cells rz.toArray 69)) := (((Below.refl _ _).alloc (Nat.le_refl _) _).alloc (by simp) _).alloc (by simp; omega) _
 have X1 := ((Blk.new w 69 cs).alloc (.cells rz.toArray 69)).alloc (.cells rz.toArray 69)
 have X2 := (Blk.new' (w.alloc (.cells cs.toArray 69)) 69 rz (w.heap.size + 1) (by simp)).alloc (.cells rz.toArray 69)
 have X3 := Blk.new' ((w.alloc (.cells cs.toArray 69)).alloc (.cells rz.toArray 69)) 69 rz (w.heap.size + 1 + 1) (by simp)
 rw [hrz] at X1 X2 X3 HX
 go_enter func91, ntmps91
 go_wp2_with (first
  | (refine at_op (.load 69 (.tmp 1)) rfl ?_; go_must (refine wpList_ldB rfl _ _ rfl w.heap.size 0 rfl ((Blk.new w 69 cs).alloc _) 10 (by omega) _ underlying69 rfl rsI10 cs (tk0 (by omega)) ?_))
  | (refine at_op (.store 69 (.tmp 3) (.tmp 6)) rfl ?_; go_must (refine wpList_stB rfl _ _ _ rfl (w.heap.size + 1 + 1) 0 rfl cs rfl X3 (by rw [hcl]; decide) (by rw [hcl]; exact rsI10) hco ?_)))
 intro w3 B3 g3 sw
 clear sw
 replace B3 := blkAll (L := cs) B3 (by decide)
 have B1 := X1.grown g3 (by first | (simp; done) | (simp; omega))
 have B2 := X2.grown g3 (by first | (simp; done) | (simp; omega))
 have H := below_grown HX g3 HX.size (by omega)
 rw [← hrz] at B2
 have d0 := B3.cell_ 0 (u := .slice A1 r.sv.length c1) (by rw [hcs.out]; rfl)
 have d2 := B3.cell_ 2 (u := .slice A3 r.so.length c3) (by rw [hcs.out]; rfl)
 have f0 := B3.frozen 0
 have f2 := B3.frozen 2
 have hgl := B3.lt
 clear X1 X2 X3 HX g3 hrz hco
 go_upto_block 0 with fail
 obtain ⟨W, hW⟩ : ∃ W, W = (w3.setCell ⟨w.heap.size + 1 + 1, 0, none⟩ (.slice none 0 0)).setCell ⟨w.heap.size + 1 + 1, 2, none⟩ (.slice none 0 0) := ⟨_, rfl⟩
 rw [← hW]
 have B1 : Blk W w.heap.size 69 cs := by rw [hW]; exact (B1.far (p := ⟨w.heap.size + 1 + 1, 0, none⟩) (by first | (simp; done) | (simp; omega)) _).far (p := ⟨w.heap.size + 1 + 1, 2, none⟩) (by first | (simp; done) | (simp; omega)) _
 have B2 : Blk W (w.heap.size + 1) 69 rz := by rw [hW]; exact (B2.far (p := ⟨w.heap.size + 1 + 1, 0, none⟩) (by first | (simp; done) | (simp; omega)) _).far (p := ⟨w.heap.size + 1 + 1, 2, none⟩) (by first | (simp; done) | (simp; omega)) _
 have B3 : Blk W (w.heap.size + 1 + 1) 69 [nilS, .slice A2 r.se.length c2, nilS, .int .i64 r.nd, .int .i64 r.tmo, .int .i64 r.at_, .bool r.ro, .bool r.vc, .bool r.si, .bool r.ed] := by rw [hW]; have := (B3.set 0 (.slice none 0 0)).set 2 (.slice none 0 0); rw [hcs.out] at this; exact this
 have H : Below w.heap.size w W := by rw [hW]; exact below_grown (below_grown H (grown_cell1 _ _ _ _) H.size (by omega)) (grown_cell1 _ _ _ _) (by simp [World.setCell]; exact H.size) (by omega)
 clear hW d0 d2 f0 f2 hgl
 go_cut [] (fun wx => ∃ (v : Value) (lo : List _), LOwn wx w.heap.size 24 18 AdI v lo ∧ lo = leftP adOk r.sv 3 ∧ Blk wx w.heap.size 69 cs ∧ Blk wx (w.heap.size + 1) 69 rz ∧ Blk wx (w.heap.size + 1 + 1) 69 [v, .slice A2 r.se.length c2, nilS, .int .i64 r.nd, .int .i64 r.tmo, .int .i64 r.at_, .bool r.ro, .bool r.vc, .bool r.si, .bool r.ed] ∧ Below w.heap.size w wx)
 case first =>
  go_wp2_with fail
  go_loopw [4] (fun iv wr => ∃ (k : Nat) (v : Value) (lo : List _), k ≤ r.sv.length ∧ iv = .int .i64 k ∧ LOwn wr w.heap.size 24 18 AdI v lo ∧ lo.length ≤ 3 ∧ lo = (r.sv.take k).filter adOk ∧ Blk wr w.heap.size 69 cs ∧ Blk wr (w.heap.size + 1) 69 rz ∧ Blk wr (w.heap.size + 1 + 1) 69 [v, .slice A2 r.se.length c2, nilS, .int .i64 r.nd, .int .i64 r.tmo, .int .i64 r.at_, .bool r.ro, .bool r.vc, .bool r.si, .bool r.ed] ∧ Below w.heap.size w wr) (fun iv _ => r.sv.length - (intOf iv).toNat)
  case atStart => exact ⟨0, nilS, [], Nat.zero_le _, rfl, LOwn.nil _ _ _ _ _, by simp, by simp, B1, B2, B3, H⟩
  clear B1 B2 B3 H
  obtain ⟨k, v, lo, hk, rfl, ho, hle, hlo, B1, B2, B3, H⟩ := hrel
  obtain ⟨Av, cv, hv⟩ := ho.form
  subst hv
  have e0 := B1.cell_ 0 (u := .slice A1 r.sv.length c1) (by rw [hcs.out]; rfl)
  have d0 := B3.cell_ 0 rfl
  by_cases hlt : k < r.sv.length
  case neg =>
   have hlt' : ¬ (k : Int) < r.sv.length := by omega
   go_wp2_with fail
   go_meet
   case rel => exact ⟨_, lo, ho, by rw [left_all (by rw [← List.take_of_length_le (show r.sv.length ≤ k by omega), ← hlo]; exact hle), hlo, List.take_of_length_le (by omega)], B1, B2, B3, H⟩
  have hlt' : (k : Int) < r.sv.length := by omega
  by_cases hful : lo.length < 3
  case neg =>
   have h3 : lo.length = 3 := by omega
   rw [h3] at d0
   go_wp2_with fail
   go_meet
   case rel => exact ⟨_, lo, ho, by rw [left_full (show ((r.sv.take k).filter adOk).length = 3 by rw [← hlo]; omega), hlo], B1, B2, B3, H⟩
  have hful' : (lo.length : Int) < 3 := by omega
  obtain ⟨b, off, hAA, hbw, hr⟩ := h1 (by omega)
  obtain ⟨es, hes, hce, hip⟩ := hr k hlt
  have HES := Hh hes
  have hes := range_below hes H hbw
  have hel : es.length = 18 := by rw [hce]; exact Adr.cells_len _ hip
  have hone : ∀ v ∈ es, v.oneCell' = true := by rw [hce]; exact Adr.cells_one _
  have CK : Hid (∀ W, Calls prog 144 #[.agg es.toArray] W (RetB (.int .i64 r.sv[k].check) W)) := Hh (fun W => by rw [hce]; exact refCheck09_any _ hip W)
  have HI : Hid (AdI es r.sv[k]) := Hh ⟨hce, hip⟩
  have HO := Hh ho
  have HH := Hh H
  have HB1 := Hh B1
  have HB2 := Hh B2
  have HB3 := Hh B3
  have FS := filter_succ (p := adOk) hlt
  have HFS := Hh (And.intro FS hlo)
  have HADK : Hid (adOk r.sv[k] = (r.sv[k].check == 0)) := Hh rfl
  clear FS hlo
  clear hce hip hr ho
  subst hAA
  go_wp2_with (refine at_op (.load 24 (.tmp 25)) rfl ?_; go_must (refine wpList_ldR rfl 24 (.tmp 25) rfl b (off + k * 18) rfl es hes _ underlying24 rfl (by rw [hel]; exact adI18) ?_))
  refine (CK.out _).mono ?_
  rintro _ w4 ⟨rfl, b4⟩
  have B14 := HB1.out.below b4 HB1.out.lt
  have B24 := HB2.out.below b4 HB2.out.lt
  have B34 := HB3.out.below b4 HB3.out.lt
  have H4 := below_then HH.out HH.out.size b4
  have HO4 := Hh (LOwn.below (R' := AdI) HO.out b4 (fun _ _ h => h))
  clear e0 d0 B1 B2 B3 H HB1 HB2 HB3 HO HH hes CK b4
  by_cases hz : r.sv[k].check = 0
  case neg =>
   have hz' : (r.sv[k].check == 0) = false := by simpa using hz
   have FS0 : Hid (lo = (r.sv.take (k + 1)).filter adOk) := Hh (by rw [HFS.out.1, if_neg (by rw [HADK.out]; simpa using hz), List.append_nil]; exact HFS.out.2)
   clear hz
   go_wp2_with fail
   go_roundw
   case rel => exact ⟨k + 1, _, lo, by omega, by go_num, HO4.out, hle, FS0.out, B14, B24, B34, H4⟩
   case measure => simp [intOf]; omega
  have FS1 : Hid (lo ++ [r.sv[k]] = (r.sv.take (k + 1)).filter adOk) := Hh (by rw [HFS.out.1, if_pos (by rw [HADK.out, hz]; rfl), ← HFS.out.2])
  rw [hz]
  clear hz
  have LS : Hid (∀ V, Blk V w.heap.size 69 cs → (Instr.loadAt 65 (.pointer (some ⟨w.heap.size, 0, none⟩))).run prog V = .ok (.slice (some ⟨b, off, none⟩) r.sv.length c1) V) := Hh (fun V hV => run_load1 underlying65 rfl (hV.cell_ 0 (by rw [hcs.out]; rfl)))
  have hlo1 : lo.length + 1 ≤ 200 := by omega
  have LD : Hid ((Instr.loadAt 65 (.pointer (some ⟨w.heap.size + 1 + 1, 0, none⟩))).run prog w4.drew = .ok (.slice Av lo.length cv) w4.drew) := Hh (run_load1 underlying65 rfl (B34.drew.cell_ 0 rfl))
  have LD5 : Hid ((Instr.loadAt 65 (.pointer (some ⟨w.heap.size + 1 + 1, 0, none⟩))).run prog (w4.drew.alloc (.cells es.toArray 24)) = .ok (.slice Av lo.length cv) (w4.drew.alloc (.cells es.toArray 24))) := Hh (run_load1 underlying65 rfl ((B34.drew.alloc (.cells es.toArray 24)).cell_ 0 rfl))
  have RBS := Hh (fun V => run_bsG (P := prog) V 65 24 _ 18 32 underlying65 adInfo3 (by decide) (by decide) es hel)
  have r4 := range_below HES.out H4.drew hbw
  go_wp2_with fail
  refine wp_region_held_drew (S := fun V => Blk V w.heap.size 69 cs ∧ V.rangeAt b (off + k * 18) es) (by kernel_rfl) ⟨B14.drew, r4⟩ (fun hS => ?_)
  refine held_seq hS 6 [0,2,3,4,5,6] rfl (by kernel_rfl) (fun _ _ _ _ _ h => h) rfl rfl ?_
  repeat (refine ⟨_, _, rfl, .inl ⟨rfl, fun W hW => rfl⟩, ?_⟩; simp only [Act.put, lsA, lsB, lsC])
  (refine ⟨_, _, rfl, .inl ⟨rfl, fun V hV => (exec_ld 65 (.tmp 31) ⟨w.heap.size, 0, none⟩ rfl rfl (LS.out V hV.1))⟩, ?_⟩; simp only [Act.put, lsA, lsB, lsC])
  repeat (refine ⟨_, _, rfl, .inl ⟨rfl, fun W hW => rfl⟩, ?_⟩; simp only [Act.put, lsA, lsB, lsC])
  (refine ⟨_, _, rfl, .inl ⟨rfl, fun V hV => (exec_ixK underlying65 adI18 (by decide) (.tmp 32) (.tmp 33) rfl rfl rfl hlt V)⟩, ?_⟩; simp only [Act.put, lsA, lsB, lsC])
  (refine ⟨_, _, rfl, .inl ⟨rfl, fun V hV => (exec_ld 24 (.tmp 34) ⟨b, off + k * 18, none⟩ rfl rfl (rangeK_loads hV.2 underlying24 rfl (by rw [hel]; exact adI18)))⟩, ?_⟩; simp only [Act.put, lsA, lsB, lsC])
  simp only [SeqC]
  refine ord_two 1 7 (by kernel_rfl) ?_ ?_
  ·
   refine opw_ld 1 (some 30) 65 (.tmp 29) ⟨w.heap.size + 1 + 1, 0, none⟩ rfl rfl rfl rfl (by kernel_rfl) LD.out ?_
   refine ⟨hS, ?_⟩
   simp only [Act.put, lsA, lsB, lsC]
   refine ord_one 7 (by kernel_rfl) ?_
   refine opw_run 7 (some 36) rfl rfl (by kernel_rfl) (exec_bsG (.tmp 35) rfl rfl (RBS.out _)) ?_
   have kn : Below w4.drew.heap.size w4.drew (w4.drew.alloc (.cells es.toArray 24)) := (Below.refl _ _).alloc (Nat.le_refl _) _
   have Bn := Blk.new w4.drew 24 es
   have B15 := B14.drew.alloc (.cells es.toArray 24)
   have B25 := B24.drew.alloc (.cells es.toArray 24)
   have B35 := B34.drew.alloc (.cells es.toArray 24)
   have H5 := below_then H4.drew H4.drew.size kn
   have O5 := LOwn.below (R' := AdI) (LOwn.below (R' := AdI) HO4.out (Below.refl _ w4).drew (fun _ _ h => h)) kn (fun _ _ h => h)
   refine ⟨⟨B15, range_below HES.out H5 hbw⟩, ?_⟩
   clear LS LD LD5 RBS HO4 hS r4
   simp only [Act.put, lsA, lsB, lsC]
   obtain ⟨v', wb, hr, O6, g6⟩ := run_appL (P := prog) (w4.drew.alloc (.cells es.toArray 24)) 65 65 24 _ 18 32 underlying65 adInfo3 (by kernel_rfl) (by decide) w.heap.size _ lo O5 H5.size w4.drew.heap.size es r.sv[k] Bn hel hone HI.out (by simp only [maxLen]; omega) (by omega)
   obtain ⟨Av', cv', hv'⟩ := O6.form
   subst hv'
   have B16 := O5.keep B15 (by decide) g6
   have B26 := O5.keep B25 (by decide) g6
   have B36 := O5.keep B35 (by decide) g6
   have H6 : Below w.heap.size w wb := H5.grown g6 H5.size O5.base
   refine ord_one 8 (by kernel_rfl) ?_
   refine opw_run 8 (some 37) rfl rfl (by kernel_rfl) (exec_apG (.tmp 30) (.tmp 36) rfl rfl rfl rfl hr) ?_
   refine ⟨⟨B16, range_below HES.out H6 hbw⟩, ?_⟩
   clear O5 B15 B25 B35 H5 Bn kn g6 hr
   simp only [Act.put, lsA, lsB, lsC]
   have hS := And.intro B16 (range_below HES.out H6 hbw)
   refine held_seq hS 1 [9] rfl (by kernel_rfl) (fun _ _ _ _ _ h => h) rfl rfl ?_
   repeat (refine ⟨_, _, rfl, .inl ⟨rfl, fun W hW => rfl⟩, ?_⟩; simp only [Act.put, lsA, lsB, lsC])
   simp only [SeqC]
   clear hS
   refine ord_one 10 (by kernel_rfl) ?_
   refine opw_stC 10 65 (.tmp 38) (.tmp 37) rfl rfl rfl (by kernel_rfl) (w.heap.size + 1 + 1) 0 rfl (.slice Av' (lo ++ [r.sv[k]]).length cv') rfl B36 (by simp) slI1 rfl rfl ?_
   intro w7 B37 g7 _
   have B17 := B16.grown g7 (by first | (simp; done) | (simp; omega))
   have B27 := B26.grown g7 (by first | (simp; done) | (simp; omega))
   have O7 := O6.blk g7 B36 (by decide)
   have H7 := below_grown H6 g7 H6.size (by omega)
   refine ⟨⟨B17, range_below HES.out H7 hbw⟩, ?_⟩
   clear O6 B16 B26 B36 H6 g7
   simp only [Act.put, lsA, lsB, lsC]
   refine wpAnyH_done (by kernel_rfl) ?_ _
   have hle2 : (lo ++ [r.sv[k]]).length ≤ 3 := by simp; omega
   go_wp2_with fail
   go_roundw
   case rel => exact ⟨k + 1, _, _, by omega, by go_num, O7, hle2, FS1.out, B17, B27, B37, H7⟩
   case measure => simp [intOf]; omega
  ·
   refine opw_run 7 (some 36) rfl rfl (by kernel_rfl) (exec_bsG (.tmp 35) rfl rfl (RBS.out _)) ?_
   have kn : Below w4.drew.heap.size w4.drew (w4.drew.alloc (.cells es.toArray 24)) := (Below.refl _ _).alloc (Nat.le_refl _) _
   have Bn := Blk.new w4.drew 24 es
   have B15 := B14.drew.alloc (.cells es.toArray 24)
   have B25 := B24.drew.alloc (.cells es.toArray 24)
   have B35 := B34.drew.alloc (.cells es.toArray 24)
   have H5 := below_then H4.drew H4.drew.size kn
   have O5 := LOwn.below (R' := AdI) (LOwn.below (R' := AdI) HO4.out (Below.refl _ w4).drew (fun _ _ h => h)) kn (fun _ _ h => h)
   refine ⟨⟨B15, range_below HES.out H5 hbw⟩, ?_⟩
   simp only [Act.put, lsA, lsB, lsC]
   refine ord_one 1 (by kernel_rfl) ?_
   refine opw_ld 1 (some 30) 65 (.tmp 29) ⟨w.heap.size + 1 + 1, 0, none⟩ rfl rfl rfl rfl (by kernel_rfl) LD5.out ?_
   refine ⟨⟨B15, range_below HES.out H5 hbw⟩, ?_⟩
   clear LS LD LD5 RBS HO4 hS r4
   simp only [Act.put, lsA, lsB, lsC]
   obtain ⟨v', wb, hr, O6, g6⟩ := run_appL (P := prog) (w4.drew.alloc (.cells es.toArray 24)) 65 65 24 _ 18 32 underlying65 adInfo3 (by kernel_rfl) (by decide) w.heap.size _ lo O5 H5.size w4.drew.heap.size es r.sv[k] Bn hel hone HI.out (by simp only [maxLen]; omega) (by omega)
   obtain ⟨Av', cv', hv'⟩ := O6.form
   subst hv'
   have B16 := O5.keep B15 (by decide) g6
   have B26 := O5.keep B25 (by decide) g6
   have B36 := O5.keep B35 (by decide) g6
   have H6 : Below w.heap.size w wb := H5.grown g6 H5.size O5.base
   refine ord_one 8 (by kernel_rfl) ?_
   refine opw_run 8 (some 37) rfl rfl (by kernel_rfl) (exec_apG (.tmp 30) (.tmp 36) rfl rfl rfl rfl hr) ?_
   refine ⟨⟨B16, range_below HES.out H6 hbw⟩, ?_⟩
   clear O5 B15 B25 B35 H5 Bn kn g6 hr
   simp only [Act.put, lsA, lsB, lsC]
   have hS := And.intro B16 (range_below HES.out H6 hbw)
   refine held_seq hS 1 [9] rfl (by kernel_rfl) (fun _ _ _ _ _ h => h) rfl rfl ?_
   repeat (refine ⟨_, _, rfl, .inl ⟨rfl, fun W hW => rfl⟩, ?_⟩; simp only [Act.put, lsA, lsB, lsC])
   simp only [SeqC]
   clear hS
   refine ord_one 10 (by kernel_rfl) ?_
   refine opw_stC 10 65 (.tmp 38) (.tmp 37) rfl rfl rfl (by kernel_rfl) (w.heap.size + 1 + 1) 0 rfl (.slice Av' (lo ++ [r.sv[k]]).length cv') rfl B36 (by simp) slI1 rfl rfl ?_
   intro w7 B37 g7 _
   have B17 := B16.grown g7 (by first | (simp; done) | (simp; omega))
   have B27 := B26.grown g7 (by first | (simp; done) | (simp; omega))
   have O7 := O6.blk g7 B36 (by decide)
   have H7 := below_grown H6 g7 H6.size (by omega)
   refine ⟨⟨B17, range_below HES.out H7 hbw⟩, ?_⟩
   clear O6 B16 B26 B36 H6 g7
   simp only [Act.put, lsA, lsB, lsC]
   refine wpAnyH_done (by kernel_rfl) ?_ _
   have hle2 : (lo ++ [r.sv[k]]).length ≤ 3 := by simp; omega
   go_wp2_with fail
   go_roundw
   case rel => exact ⟨k + 1, _, _, by omega, by go_num, O7, hle2, FS1.out, B17, B27, B37, H7⟩
   case measure => simp [intOf]; omega
 obtain ⟨v, lo, ho, hlo, B1, B2, B3, H⟩ := hcut
 obtain ⟨w5, rfl⟩ : ∃ w5, w5 = wc := ⟨_, rfl⟩
 obtain ⟨Av, cv, hv⟩ := ho.form
 subst hv
 have d0 := B3.cell_ 0 rfl
 have f0 := B3.frozen 0
 have hgl := B3.lt
 have hb13 : w.heap.size ≠ w.heap.size + 1 + 1 := by omega
 have hb23 : w.heap.size + 1 ≠ w.heap.size + 1 + 1 := by omega
 have hb3 : w.heap.size ≤ w.heap.size + 1 + 1 := by omega
 obtain ⟨SV, hSV⟩ : ∃ SV, Hid ((heldR r).sv = SV) := ⟨_, Hh rfl⟩
 have HSV : Hid (SV = if lo = [] then [quadA 127 0 0 1] else lo) := Hh (by rw [← hSV.out, hlo]; rfl)
 clear hlo
 go_upto_if 42 with fail
 go_cut [] (fun wx => ∃ v, LOwn wx 0 24 18 AdI v SV ∧ Blk wx w.heap.size 69 cs ∧ Blk wx (w.heap.size + 1) 69 rz ∧ Blk wx (w.heap.size + 1 + 1) 69 [v, .slice A2 r.se.length c2, nilS, .int .i64 r.nd, .int .i64 r.tmo, .int .i64 r.at_, .bool r.ro, .bool r.vc, .bool r.si, .bool r.ed] ∧ Below w.heap.size w wx)
 case first =>
  by_cases hs : lo = []
  case pos =>
   subst hs
   have hq : SV = [quadA 127 0 0 1] := by rw [HSV.out, if_pos rfl]
   have HQ := Hh hq
   have hql : (quadA 127 0 0 1).cells.length = 18 := rfl
   have HI : Hid (AdI (quadA 127 0 0 1).cells (quadA 127 0 0 1)) := Hh ⟨rfl, rfl⟩
   clear hq HSV hSV
   generalize quadA 127 0 0 1 = qa at *
   generalize qa.cells = qc at *
   go_wp2_with fail
   refine (OF.out _).mono ?_
   rintro _ w6 ⟨rfl, b6⟩
   have E1 := B1.below b6 B1.lt
   have E2 := B2.below b6 B2.lt
   have E3 := B3.below b6 B3.lt
   have H6 := below_then H H.size b6
   clear OF b6 B1 B2 B3 d0 f0 H ho
   go_wp2_with (refine at_op (.buildSlice 65 1 #[(0, .tmp 43)]) rfl ?_; go_must (refine wpList_bsN rfl 65 24 _ 18 32 underlying65 adInfo3 (by decide) (by decide) (.tmp 43) rfl qc rfl hql ?_))
   intro w7 B4 KA
   have O5 := LOwn.one 18 B4 hql HI.out
   replace E1 := E1.below KA E1.lt
   replace E2 := E2.below KA E2.lt
   replace E3 := E3.below KA E3.lt
   have H7 := below_then H6 H6.size KA
   have e30 := E3.cell_ 0 rfl
   have e3f := E3.frozen 0
   have hgl7 := E3.lt
   clear HI KA H6 B4
   go_wp2_with fail
   go_meet
   case rel =>
    refine ⟨_, ?_, E1.far hb13 _, E2.far hb23 _, E3.set 0 _, below_grown H7 (grown_cell1 _ _ _ _) H7.size hb3⟩
    rw [HQ.out]
    exact O5.blk (grown_cell1 _ _ _ _) E3 (by decide)
  case neg =>
   have hs0 : 0 < lo.length := by cases lo with | nil => exact absurd rfl hs | cons _ _ => simp
   have hs1 : ((lo.length : Int) == 0) = false := by simp; exact hs
   have hq : SV = lo := by rw [HSV.out, if_neg hs]
   have HQ := Hh hq
   clear hq hSV HSV hs
   obtain ⟨ln, hln⟩ : ∃ ln, Hid (lo.length = ln) := ⟨_, Hh rfl⟩
   have HHO := Hh ho
   rw [hln.out] at hs0 hs1 d0 ⊢
   clear ho
   go_wp2_with fail
   go_meet
   case rel =>
    refine ⟨_, ?_, B1, B2, B3, H⟩
    rw [HQ.out]
    exact LOwn.zero HHO.out
 obtain ⟨u1, KO, B1, B2, B3, H⟩ := hcut
 clear d0 f0 ho hgl OF HSV
 obtain ⟨w6, rfl⟩ : ∃ w6, w6 = wc := ⟨_, rfl⟩
 go_upto_block 2 with fail
 go_cut [] (fun wx => ∃ (v : Value) (lo : List _), LOwn wx w.heap.size 236 19 PfI v lo ∧ Blk wx w.heap.size 69 cs ∧ Blk wx (w.heap.size + 1) 69 rz ∧ Blk wx (w.heap.size + 1 + 1) 69 [u1, .slice A2 r.se.length c2, v, .int .i64 r.nd, .int .i64 r.tmo, .int .i64 r.at_, .bool r.ro, .bool r.vc, .bool r.si, .bool r.ed] ∧ LOwn wx 0 24 18 AdI u1 SV ∧ Below w.heap.size w wx)
 case first =>
  go_wp2_with fail
  go_loopw [5] (fun iv wr => ∃ (k : Nat) (v : Value) (lo : List _), k ≤ r.so.length ∧ iv = .int .i64 k ∧ LOwn wr w.heap.size 236 19 PfI v lo ∧ lo.length ≤ 10 ∧ Blk wr w.heap.size 69 cs ∧ Blk wr (w.heap.size + 1) 69 rz ∧ Blk wr (w.heap.size + 1 + 1) 69 [u1, .slice A2 r.se.length c2, v, .int .i64 r.nd, .int .i64 r.tmo, .int .i64 r.at_, .bool r.ro, .bool r.vc, .bool r.si, .bool r.ed] ∧ LOwn wr 0 24 18 AdI u1 SV ∧ Below w.heap.size w wr) (fun iv _ => r.so.length - (intOf iv).toNat)
  case atStart => exact ⟨0, nilS, [], Nat.zero_le _, rfl, LOwn.nil _ _ _ _ _, by simp, B1, B2, B3, KO, H⟩
  clear B1 B2 B3 H KO
  obtain ⟨k, v, lo, hk, rfl, ho, hle, B1, B2, B3, KO, H⟩ := hrel
  obtain ⟨Av, cv, hv⟩ := ho.form
  subst hv
  have e0 := B1.cell_ 2 (u := .slice A3 r.so.length c3) (by rw [hcs.out]; rfl)
  have d0 := B3.cell_ 2 rfl
  by_cases hlt : k < r.so.length
  case neg =>
   have hlt' : ¬ (k : Int) < r.so.length := by omega
   go_wp2_with fail
   go_meet
   case rel => exact ⟨_, lo, ho, B1, B2, B3, KO, H⟩
  have hlt' : (k : Int) < r.so.length := by omega
  by_cases hful : lo.length < 10
  case neg =>
   have h3 : lo.length = 10 := by omega
   rw [h3] at d0
   go_wp2_with fail
   go_meet
   case rel => exact ⟨_, lo, ho, B1, B2, B3, KO, H⟩
  have hful' : (lo.length : Int) < 10 := by omega
  obtain ⟨b, off, hAA, hbw, hr⟩ := h3 (by omega)
  obtain ⟨es, hes, hce, hip⟩ := hr k hlt
  have HES := Hh hes
  have hes := range_below hes H hbw
  have hel : es.length = 19 := by rw [hce]; exact pfC_len hip
  have hone : ∀ v ∈ es, v.oneCell' = true := by rw [hce]; exact pfC_one _
  have CK : Hid (∀ W, Calls prog 145 #[.agg es.toArray] W (WkI W)) := Hh (fun W => by rw [hce]; exact refHolds_any _ hip W)
  have HI : Hid (PfI es r.so[k]) := Hh ⟨hce, hip⟩
  have HO := Hh ho
  have HH := Hh H
  have HB1 := Hh B1
  have HB2 := Hh B2
  have HB3 := Hh B3
  clear hce hip hr ho
  subst hAA
  go_wp2_with (refine at_op (.load 236 (.tmp 62)) rfl ?_; go_must (refine wpList_ldR rfl 236 (.tmp 62) rfl b (off + k * 19) rfl es hes _ underlying236 rfl (by rw [hel]; exact pfI19) ?_))
  refine (CK.out _).mono ?_
  rintro _ w4 ⟨z, rfl, b4⟩
  have B14 := HB1.out.below b4 HB1.out.lt
  have B24 := HB2.out.below b4 HB2.out.lt
  have B34 := HB3.out.below b4 HB3.out.lt
  have H4 := below_then HH.out HH.out.size b4
  have HO4 := Hh (LOwn.below (R' := PfI) HO.out b4 (fun _ _ h => h))
  have KO4 := Hh (LOwn.below (R' := AdI) KO b4 (fun _ _ h => h))
  clear KO
  clear e0 d0 B1 B2 B3 H HB1 HB2 HB3 HO HH hes CK b4
  by_cases hz : z = 0
  case neg =>
   have hz' : (z == 0) = false := by simpa using hz
   clear hz
   go_wp2_with fail
   go_roundw
   case rel => exact ⟨k + 1, _, lo, by omega, by go_num, HO4.out, hle, B14, B24, B34, KO4.out, H4⟩
   case measure => simp [intOf]; omega
  rw [hz]
  clear hz
  have LS : Hid (∀ V, Blk V w.heap.size 69 cs → (Instr.loadAt 67 (.pointer (some ⟨w.heap.size, 2, none⟩))).run prog V = .ok (.slice (some ⟨b, off, none⟩) r.so.length c3) V) := Hh (fun V hV => run_load1 underlying67 rfl (hV.cell_ 2 (by rw [hcs.out]; rfl)))
  have hlo1 : lo.length + 1 ≤ 200 := by omega
  have LD : Hid ((Instr.loadAt 67 (.pointer (some ⟨w.heap.size + 1 + 1, 2, none⟩))).run prog w4.drew = .ok (.slice Av lo.length cv) w4.drew) := Hh (run_load1 underlying67 rfl (B34.drew.cell_ 2 rfl))
  have LD5 : Hid ((Instr.loadAt 67 (.pointer (some ⟨w.heap.size + 1 + 1, 2, none⟩))).run prog (w4.drew.alloc (.cells es.toArray 236)) = .ok (.slice Av lo.length cv) (w4.drew.alloc (.cells es.toArray 236))) := Hh (run_load1 underlying67 rfl ((B34.drew.alloc (.cells es.toArray 236)).cell_ 2 rfl))
  have RBS := Hh (fun V => run_bsG (P := prog) V 67 236 _ 19 40 underlying67 pfInfo3 (by decide) (by decide) es hel)
  have r4 := range_below HES.out H4.drew hbw
  go_wp2_with fail
  refine wp_region_held_drew (S := fun V => Blk V w.heap.size 69 cs ∧ V.rangeAt b (off + k * 19) es) (by kernel_rfl) ⟨B14.drew, r4⟩ (fun hS => ?_)
  refine held_seq hS 6 [0,2,3,4,5,6] rfl (by kernel_rfl) (fun _ _ _ _ _ h => h) rfl rfl ?_
  repeat (refine ⟨_, _, rfl, .inl ⟨rfl, fun W hW => rfl⟩, ?_⟩; simp only [Act.put, lsA, lsB, lsC])
  (refine ⟨_, _, rfl, .inl ⟨rfl, fun V hV => (exec_ld 67 (.tmp 68) ⟨w.heap.size, 2, none⟩ rfl rfl (LS.out V hV.1))⟩, ?_⟩; simp only [Act.put, lsA, lsB, lsC])
  repeat (refine ⟨_, _, rfl, .inl ⟨rfl, fun W hW => rfl⟩, ?_⟩; simp only [Act.put, lsA, lsB, lsC])
  (refine ⟨_, _, rfl, .inl ⟨rfl, fun V hV => (exec_ixK underlying67 pfI19 (by decide) (.tmp 69) (.tmp 70) rfl rfl rfl hlt V)⟩, ?_⟩; simp only [Act.put, lsA, lsB, lsC])
  (refine ⟨_, _, rfl, .inl ⟨rfl, fun V hV => (exec_ld 236 (.tmp 71) ⟨b, off + k * 19, none⟩ rfl rfl (rangeK_loads hV.2 underlying236 rfl (by rw [hel]; exact pfI19)))⟩, ?_⟩; simp only [Act.put, lsA, lsB, lsC])
  simp only [SeqC]
  refine ord_two 1 7 (by kernel_rfl) ?_ ?_
  ·
   refine opw_ld 1 (some 67) 67 (.tmp 66) ⟨w.heap.size + 1 + 1, 2, none⟩ rfl rfl rfl rfl (by kernel_rfl) LD.out ?_
   refine ⟨hS, ?_⟩
   simp only [Act.put, lsA, lsB, lsC]
   refine ord_one 7 (by kernel_rfl) ?_
   refine opw_run 7 (some 73) rfl rfl (by kernel_rfl) (exec_bsG (.tmp 72) rfl rfl (RBS.out _)) ?_
   have kn : Below w4.drew.heap.size w4.drew (w4.drew.alloc (.cells es.toArray 236)) := (Below.refl _ _).alloc (Nat.le_refl _) _
   have Bn := Blk.new w4.drew 236 es
   have B15 := B14.drew.alloc (.cells es.toArray 236)
   have B25 := B24.drew.alloc (.cells es.toArray 236)
   have B35 := B34.drew.alloc (.cells es.toArray 236)
   have H5 := below_then H4.drew H4.drew.size kn
   have O5 := LOwn.below (R' := PfI) (LOwn.below (R' := PfI) HO4.out (Below.refl _ w4).drew (fun _ _ h => h)) kn (fun _ _ h => h)
   have KO5 := LOwn.below (R' := AdI) (LOwn.below (R' := AdI) KO4.out (Below.refl _ w4).drew (fun _ _ h => h)) kn (fun _ _ h => h)
   refine ⟨⟨B15, range_below HES.out H5 hbw⟩, ?_⟩
   clear LS LD LD5 RBS HO4 hS r4 KO4
   simp only [Act.put, lsA, lsB, lsC]
   obtain ⟨v', wb, hr, O6, g6⟩ := run_appL (P := prog) (w4.drew.alloc (.cells es.toArray 236)) 67 67 236 _ 19 40 underlying67 pfInfo3 (by kernel_rfl) (by decide) w.heap.size _ lo O5 H5.size w4.drew.heap.size es r.so[k] Bn hel hone HI.out (by simp only [maxLen]; omega) (by omega)
   obtain ⟨Av', cv', hv'⟩ := O6.form
   subst hv'
   have B16 := O5.keep B15 (by decide) g6
   have B26 := O5.keep B25 (by decide) g6
   have B36 := O5.keep B35 (by decide) g6
   have H6 : Below w.heap.size w wb := H5.grown g6 H5.size O5.base
   have KO6 := O5.keepL KO5 (by decide) g6
   clear KO5
   refine ord_one 8 (by kernel_rfl) ?_
   refine opw_run 8 (some 74) rfl rfl (by kernel_rfl) (exec_apG (.tmp 67) (.tmp 73) rfl rfl rfl rfl hr) ?_
   refine ⟨⟨B16, range_below HES.out H6 hbw⟩, ?_⟩
   clear O5 B15 B25 B35 H5 Bn kn g6 hr
   simp only [Act.put, lsA, lsB, lsC]
   have hS := And.intro B16 (range_below HES.out H6 hbw)
   refine held_seq hS 1 [9] rfl (by kernel_rfl) (fun _ _ _ _ _ h => h) rfl rfl ?_
   repeat (refine ⟨_, _, rfl, .inl ⟨rfl, fun W hW => rfl⟩, ?_⟩; simp only [Act.put, lsA, lsB, lsC])
   simp only [SeqC]
   clear hS
   refine ord_one 10 (by kernel_rfl) ?_
   refine opw_stC 10 67 (.tmp 75) (.tmp 74) rfl rfl rfl (by kernel_rfl) (w.heap.size + 1 + 1) 2 rfl (.slice Av' (lo ++ [r.so[k]]).length cv') rfl B36 (by simp) slI2 rfl rfl ?_
   intro w7 B37 g7 _
   have B17 := B16.grown g7 (by first | (simp; done) | (simp; omega))
   have B27 := B26.grown g7 (by first | (simp; done) | (simp; omega))
   have O7 := O6.blk g7 B36 (by decide)
   have H7 := below_grown H6 g7 H6.size (by omega)
   have KO7 := KO6.blk g7 B36 (by decide)
   clear KO6
   refine ⟨⟨B17, range_below HES.out H7 hbw⟩, ?_⟩
   clear O6 B16 B26 B36 H6 g7
   simp only [Act.put, lsA, lsB, lsC]
   refine wpAnyH_done (by kernel_rfl) ?_ _
   have hle2 : (lo ++ [r.so[k]]).length ≤ 10 := by simp; omega
   go_wp2_with fail
   go_roundw
   case rel => exact ⟨k + 1, _, _, by omega, by go_num, O7, hle2, B17, B27, B37, KO7, H7⟩
   case measure => simp [intOf]; omega
  ·
   refine opw_run 7 (some 73) rfl rfl (by kernel_rfl) (exec_bsG (.tmp 72) rfl rfl (RBS.out _)) ?_
   have kn : Below w4.drew.heap.size w4.drew (w4.drew.alloc (.cells es.toArray 236)) := (Below.refl _ _).alloc (Nat.le_refl _) _
   have Bn := Blk.new w4.drew 236 es
   have B15 := B14.drew.alloc (.cells es.toArray 236)
   have B25 := B24.drew.alloc (.cells es.toArray 236)
   have B35 := B34.drew.alloc (.cells es.toArray 236)
   have H5 := below_then H4.drew H4.drew.size kn
   have O5 := LOwn.below (R' := PfI) (LOwn.below (R' := PfI) HO4.out (Below.refl _ w4).drew (fun _ _ h => h)) kn (fun _ _ h => h)
   have KO5 := LOwn.below (R' := AdI) (LOwn.below (R' := AdI) KO4.out (Below.refl _ w4).drew (fun _ _ h => h)) kn (fun _ _ h => h)
   refine ⟨⟨B15, range_below HES.out H5 hbw⟩, ?_⟩
   simp only [Act.put, lsA, lsB, lsC]
   refine ord_one 1 (by kernel_rfl) ?_
   refine opw_ld 1 (some 67) 67 (.tmp 66) ⟨w.heap.size + 1 + 1, 2, none⟩ rfl rfl rfl rfl (by kernel_rfl) LD5.out ?_
   refine ⟨⟨B15, range_below HES.out H5 hbw⟩, ?_⟩
   clear LS LD LD5 RBS HO4 hS r4 KO4
   simp only [Act.put, lsA, lsB, lsC]
   obtain ⟨v', wb, hr, O6, g6⟩ := run_appL (P := prog) (w4.drew.alloc (.cells es.toArray 236)) 67 67 236 _ 19 40 underlying67 pfInfo3 (by kernel_rfl) (by decide) w.heap.size _ lo O5 H5.size w4.drew.heap.size es r.so[k] Bn hel hone HI.out (by simp only [maxLen]; omega) (by omega)
   obtain ⟨Av', cv', hv'⟩ := O6.form
   subst hv'
   have B16 := O5.keep B15 (by decide) g6
   have B26 := O5.keep B25 (by decide) g6
   have B36 := O5.keep B35 (by decide) g6
   have H6 : Below w.heap.size w wb := H5.grown g6 H5.size O5.base
   have KO6 := O5.keepL KO5 (by decide) g6
   clear KO5
   refine ord_one 8 (by kernel_rfl) ?_
   refine opw_run 8 (some 74) rfl rfl (by kernel_rfl) (exec_apG (.tmp 67) (.tmp 73) rfl rfl rfl rfl hr) ?_
   refine ⟨⟨B16, range_below HES.out H6 hbw⟩, ?_⟩
   clear O5 B15 B25 B35 H5 Bn kn g6 hr
   simp only [Act.put, lsA, lsB, lsC]
   have hS := And.intro B16 (range_below HES.out H6 hbw)
   refine held_seq hS 1 [9] rfl (by kernel_rfl) (fun _ _ _ _ _ h => h) rfl rfl ?_
   repeat (refine ⟨_, _, rfl, .inl ⟨rfl, fun W hW => rfl⟩, ?_⟩; simp only [Act.put, lsA, lsB, lsC])
   simp only [SeqC]
   clear hS
   refine ord_one 10 (by kernel_rfl) ?_
   refine opw_stC 10 67 (.tmp 75) (.tmp 74) rfl rfl rfl (by kernel_rfl) (w.heap.size + 1 + 1) 2 rfl (.slice Av' (lo ++ [r.so[k]]).length cv') rfl B36 (by simp) slI2 rfl rfl ?_
   intro w7 B37 g7 _
   have B17 := B16.grown g7 (by first | (simp; done) | (simp; omega))
   have B27 := B26.grown g7 (by first | (simp; done) | (simp; omega))
   have O7 := O6.blk g7 B36 (by decide)
   have H7 := below_grown H6 g7 H6.size (by omega)
   have KO7 := KO6.blk g7 B36 (by decide)
   clear KO6
   refine ⟨⟨B17, range_below HES.out H7 hbw⟩, ?_⟩
   clear O6 B16 B26 B36 H6 g7
   simp only [Act.put, lsA, lsB, lsC]
   refine wpAnyH_done (by kernel_rfl) ?_ _
   have hle2 : (lo ++ [r.so[k]]).length ≤ 10 := by simp; omega
   go_wp2_with fail
   go_roundw
   case rel => exact ⟨k + 1, _, _, by omega, by go_num, O7, hle2, B17, B27, B37, KO7, H7⟩
   case measure => simp [intOf]; omega
 obtain ⟨v, lo, ho, B1, B2, B3, KO, H⟩ := hcut
 obtain ⟨w7, rfl⟩ : ∃ w7, w7 = wc := ⟨_, rfl⟩
 obtain ⟨Av', cv', hv'⟩ := ho.form
 obtain ⟨nv', hnv'⟩ : ∃ nv', lo.length = nv' := ⟨_, rfl⟩
 rw [hnv'] at hv'
 subst hv'
 have e1 := B1.cell_ 1 (u := .slice A2 r.se.length c2) (by rw [hcs.out]; rfl)
 have NM1 := Hh (NM.out _ H)
 clear NM ho
 obtain ⟨ns, hns⟩ : ∃ ns, Hid (r.se.length = ns) := ⟨_, Hh rfl⟩
 go_wp2_with fail
 refine NM1.out.mono ?_
 rintro _ w8 ⟨vn, rfl, ON, b8⟩
 obtain ⟨An, cn, hvn⟩ := ON.form
 have KO8 := LOwn.below (R' := AdI) KO b8 (fun _ _ h => h)
 have C1 := B1.below b8 B1.lt
 have C2 := B2.below b8 B2.lt
 have C3 := B3.below b8 B3.lt
 have H8 := below_then H H.size b8
 obtain ⟨nn, hnn⟩ : ∃ nn, (leftP nmOk r.se 6).length = nn := ⟨_, rfl⟩
 rw [hnn] at hvn
 subst hvn
 have e3 := C1.cell_ 3 (u := .int .i64 r.nd) (by rw [hcs.out]; rfl)
 have e4 := C1.cell_ 4 (u := .int .i64 r.tmo) (by rw [hcs.out]; rfl)
 have e5 := C1.cell_ 5 (u := .int .i64 r.at_) (by rw [hcs.out]; rfl)
 have d1 := C3.cell_ 1 rfl
 have d3 := C3.cell_ 3 rfl
 have d4 := C3.cell_ 4 rfl
 have d5 := C3.cell_ 5 rfl
 have f1 := C3.frozen 1
 have f3 := C3.frozen 3
 have f4 := C3.frozen 4
 have f5 := C3.frozen 5
 have hgl := C3.lt
 clear NM1 ON b8 B1 B2 B3 H KO e1
 go_upto_region 17 with fail
 have KQ := grown_cell1 w8 (w.heap.size + 1 + 1) 1 (.slice An nn cn)
 have D1 := C1.far (p := ⟨w.heap.size + 1 + 1, 1, none⟩) hb13 (.slice An nn cn)
 have D2 := C2.far (p := ⟨w.heap.size + 1 + 1, 1, none⟩) hb23 (.slice An nn cn)
 have D3 := C3.set 1 (.slice An nn cn)
 have KO9 := KO8.blk KQ C3 (by decide)
 have H9 := below_grown H8 KQ H8.size hb3
 simp only [List.set_cons_zero, List.set_cons_succ] at D3
 generalize w8.setCell ⟨w.heap.size + 1 + 1, 1, none⟩ (.slice An nn cn) = wc at *
 clear KQ C1 C2 C3 KO8 H8 d1 d3 d4 d5 e3 e4 e5 f1 f3 f4 f5 hgl
 go_cut [] (fun wx => LOwn wx 0 24 18 AdI u1 SV ∧ Blk wx w.heap.size 69 cs ∧ Blk wx (w.heap.size + 1) 69 rz ∧ Blk wx (w.heap.size + 1 + 1) 69 [u1, .slice An nn cn, .slice Av' nv' cv', .int .i64 (min (max r.nd 0) 15), .int .i64 r.tmo, .int .i64 r.at_, .bool r.ro, .bool r.vc, .bool r.si, .bool r.ed] ∧ Below w.heap.size w wx)
 case first =>
  have e3 := D1.cell_ 3 (u := .int .i64 r.nd) (by rw [hcs.out]; rfl)
  have d3 := D3.cell_ 3 rfl
  have f3 := D3.frozen 3
  have hgl := D3.lt
  have HD := Hh (And.intro D1 (And.intro D2 (And.intro D3 (And.intro KO9 H9))))
  clear D1 D2 D3 KO9 H9
  go_wp2_with fail
  all_goals
   go_meet
   case rel =>
    obtain ⟨D1, D2, D3, KO9, H9⟩ := HD.out
    exact ⟨KO9.blk (grown_cell1 _ _ _ _) D3 (by decide), D1.far hb13 _, D2.far hb23 _, D3.setI (by omega) rfl, below_grown H9 (grown_cell1 _ _ _ _) H9.size hb3⟩
 obtain ⟨KO9, D1, D2, D3, H9⟩ := hcut
 obtain ⟨w17, rfl⟩ : ∃ w17, w17 = wc := ⟨_, rfl⟩
 go_upto_region 18 with fail
 go_cut [] (fun wx => LOwn wx 0 24 18 AdI u1 SV ∧ Blk wx w.heap.size 69 cs ∧ Blk wx (w.heap.size + 1) 69 rz ∧ Blk wx (w.heap.size + 1 + 1) 69 [u1, .slice An nn cn, .slice Av' nv' cv', .int .i64 (min (max r.nd 0) 15), .int .i64 (min (max r.tmo 1) 30), .int .i64 r.at_, .bool r.ro, .bool r.vc, .bool r.si, .bool r.ed] ∧ Below w.heap.size w wx)
 case first =>
  have e3 := D1.cell_ 4 (u := .int .i64 r.tmo) (by rw [hcs.out]; rfl)
  have d3 := D3.cell_ 4 rfl
  have f3 := D3.frozen 4
  have hgl := D3.lt
  have HD := Hh (And.intro D1 (And.intro D2 (And.intro D3 (And.intro KO9 H9))))
  clear D1 D2 D3 KO9 H9
  go_wp2_with fail
  all_goals
   go_meet
   case rel =>
    obtain ⟨D1, D2, D3, KO9, H9⟩ := HD.out
    exact ⟨KO9.blk (grown_cell1 _ _ _ _) D3 (by decide), D1.far hb13 _, D2.far hb23 _, D3.setI (by omega) rfl, below_grown H9 (grown_cell1 _ _ _ _) H9.size hb3⟩
 obtain ⟨KO9, D1, D2, D3, H9⟩ := hcut
 obtain ⟨w18, rfl⟩ : ∃ w18, w18 = wc := ⟨_, rfl⟩
 go_upto_region 19 with fail
 go_cut [] (fun wx => LOwn wx 0 24 18 AdI u1 SV ∧ Blk wx w.heap.size 69 cs ∧ Blk wx (w.heap.size + 1) 69 rz ∧ Blk wx (w.heap.size + 1 + 1) 69 [u1, .slice An nn cn, .slice Av' nv' cv', .int .i64 (min (max r.nd 0) 15), .int .i64 (min (max r.tmo 1) 30), .int .i64 (min (max r.at_ 1) 5), .bool r.ro, .bool r.vc, .bool r.si, .bool r.ed] ∧ Below w.heap.size w wx)
 case first =>
  have e3 := D1.cell_ 5 (u := .int .i64 r.at_) (by rw [hcs.out]; rfl)
  have d3 := D3.cell_ 5 rfl
  have f3 := D3.frozen 5
  have hgl := D3.lt
  have HD := Hh (And.intro D1 (And.intro D2 (And.intro D3 (And.intro KO9 H9))))
  clear D1 D2 D3 KO9 H9
  go_wp2_with fail
  all_goals
   go_meet
   case rel =>
    obtain ⟨D1, D2, D3, KO9, H9⟩ := HD.out
    exact ⟨KO9.blk (grown_cell1 _ _ _ _) D3 (by decide), D1.far hb13 _, D2.far hb23 _, D3.setI (by omega) rfl, below_grown H9 (grown_cell1 _ _ _ _) H9.size hb3⟩
 obtain ⟨KO9, D1, D2, D3, H9⟩ := hcut
 obtain ⟨w19, rfl⟩ : ∃ w19, w19 = wc := ⟨_, rfl⟩
 have Q3 := D3
 have Q2 := D2
 clear D1 D2 D3
 obtain ⟨Au, cu, hu1⟩ := KO9.form
 obtain ⟨RL, hRL⟩ : ∃ RL : List Value, Hid (RL = [u1, .slice An nn cn, .slice Av' nv' cv', .int .i64 (min (max r.nd 0) 15), .int .i64 (min (max r.tmo 1) 30), .int .i64 (min (max r.at_ 1) 5), .bool r.ro, .bool r.vc, .bool r.si, .bool r.ed]) := ⟨_, Hh rfl⟩
 rw [← hRL.out] at Q3
 have hRl : RL.length = 10 := by rw [hRL.out]; rfl
 have RON : ∀ x ∈ RL, x.oneCell' = true := by
  intro x hx
  rw [hRL.out, hu1] at hx
  simp only [List.mem_cons, List.not_mem_nil, or_false] at hx
  rcases hx with rfl | rfl | rfl | rfl | rfl | rfl | rfl | rfl | rfl | rfl <;> rfl
 have FIN : Hid (∀ W', Below w.heap.size w W' → LOwn W' 0 24 18 AdI u1 SV → RvRet r w (.returned (.agg RL.toArray)) W') := Hh (fun W' hW hO => by
  rw [hu1] at hO
  exact ⟨Au, cu, _, _, _, _, _, _, by rw [hRL.out, hu1, ← hSV.out]; rfl, by rw [hSV.out]; exact hO, hW⟩)
 have HKO := Hh KO9
 clear KO9 hu1
 go_wp2_with (first
  | (refine at_op (.load 69 (.tmp 3)) rfl ?_; go_must (refine wpList_ldB rfl _ _ rfl (w.heap.size + 1 + 1) 0 rfl Q3 10 (by omega) _ underlying69 rfl rsI10 RL (tk0 (by omega)) ?_))
  | (refine at_op (.store 69 (.tmp 2) (.tmp 95)) rfl ?_; go_must (refine wpList_stB rfl _ _ _ rfl (w.heap.size + 1) 0 rfl RL rfl Q2 (by omega) (by rw [hRl]; exact rsI10) RON ?_)))
 intro w9 B9 g9 sw
 clear sw
 have B9' := blkAll (L := RL) B9 (by omega)
 have KO10 := HKO.out.blk g9 Q2 (by decide)
 have H10 := below_grown H9 g9 H9.size (by omega)
 have FF := Hh (FIN.out w9 H10 KO10)
 clear B9 g9 Q2 Q3 H9 H10 KO10 HKO FIN
 go_wp2_with fail
 refine ret_cell rfl (w.heap.size + 1) rfl B9' _ underlying69 rfl (by rw [hRl]; exact rsI10) rfl ?_
 exact FF.out
end Go.Proofs.YthnbcmlnpdabhaaGreat
