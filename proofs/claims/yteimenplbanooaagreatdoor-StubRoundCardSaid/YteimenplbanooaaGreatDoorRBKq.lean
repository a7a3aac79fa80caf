/-
  Layer 32 (pair): Hear.
-/
import Derived.Test.YteimenplbanooaaGreatDoorRBIq
namespace Go.Proofs.YteimenplbanooaaGreatDoor
open _root_.Go.Proofs.Tryz
open Go.RowKit
set_option maxRecDepth 100000
set_option linter.unusedVariables false
set_option linter.unusedSimpArgs false
theorem begin_len : ∀ (f : Nat) (p : Pr) (L : Lt) (o : List Ou), (beginP f p L o).2.2.length ≤ o.length + f
 | 0, p, L, o => Nat.le_refl _
 | f + 1, p, L, o => by
  unfold beginP
  split
  ·
   refine Nat.le_trans (begin_len f _ _ _) ?_
   have := exP_len p L
   rw [List.length_append]; omega
  ·
   show o.length ≤ _; omega
theorem below_eq {w w' : World} {n : Nat} (h : w.heap.size = n) (k : Below n w w') : Below w.heap.size w w' := by
 subst h
 exact k
def tysF (f : Int) : List Int := (if f = 6 then [] else [1]) ++ (if f = 4 then [] else [28])
theorem tysF_len (f : Int) : (tysF f).length ≤ 2 := by unfold tysF; split <;> split <;> simp
theorem bld_PrI (a b c d e f g h i j : Value) (turn : Int) (gl : Nat) (W : World) : (Instr.build 352 #[(0, .agg [a, b, c, d, e, f, g, h, i, j].toArray), (2, .int .i64 turn), (3, .pointer (some ⟨gl, 0, none⟩))]).run prog W = .ok (.agg (prC [a, b, c, d, e, f, g, h, i, j] nilS turn gl nilS).toArray) W := by kernel_rfl
theorem bld_Pr (T : List Value) (hT : T.length = 10) (turn : Int) (gl : Nat) (W : World) : (Instr.build 352 #[(0, .agg T.toArray), (2, .int .i64 turn), (3, .pointer (some ⟨gl, 0, none⟩))]).run prog W = .ok (.agg (prC T nilS turn gl nilS).toArray) W := by
 match T, hT with
 | [a, b, c, d, e, f, g, h, i, j], _ => exact bld_PrI ..
theorem qsI1 : (prog.info? 278).map (·.size) = some 1 := by kernel_rfl
theorem prC_set10 {T : List Value} (hT : T.length = 10) (vq : Value) (turn : Int) (gl : Nat) (vb v : Value) : (prC T vq turn gl vb).set 10 v = prC T v turn gl vb := by
 unfold prC
 rw [show (10 : Nat) = 10 + 0 from rfl, t10_set hT]
 rfl
theorem startP_I (r : Rs) (nm : List (List UInt8)) (tys : List Int) (turn : Int) (L : Lt) (k H : Nat) (ht : tys.length ≤ 2) (hu : L.us ≤ 4 * k) (hd : L.ds.length ≤ 17592186044416) : PI (startP r nm tys turn) L 0 k H :=
 ⟨ht, Nat.zero_le _, fun i x h => by simp [startP] at h, by show 0 + ticksR r * (tys.length - 0) ≤ ticksR r * tys.length - 0; rw [Nat.zero_add]; exact Nat.le_refl _, by show L.us ≤ 4 * k + 2 * 0; omega, hd⟩
def PnRet (w0 : World) (b gl : Nat) (R : PR) (k H : Nat) (w : World) (e : Ending) (w' : World) : Prop := ∃ g v X, e = .returned (.tuple #[.pointer (some ⟨g, 0, none⟩), v]) ∧ OusN w.heap.size w' v R.2.2 ∧ PrAt w0 w' b g gl X R.1 ∧ LotAt w' gl R.2.1 ∧ Fr (TyS w PrTy b) w w' ∧ PI R.1 R.2.1 0 k H ∧ goP R.1 ∧ w.heap.size ≤ g
set_option maxHeartbeats 4000000 in
theorem pnew_any' (w0 : World) (b gl : Nat) (cs : List Value) (r : Rs) (A : Option Addr) (c : Nat) (nm : List (List UInt8)) (fam turn : Int) (L : Lt) (k Hn : Nat) (w : World) (h : RsIn w0 w cs r) (hw : Below w0.heap.size w0 w) (hN : NmR w A c nm) (hnl : nm.length ≤ 100000) (hl : LotAt w gl L) (hu : L.us ≤ 4 * k) (hk : k ≤ 90000000) (hd : L.ds.length ≤ 17592186044416) (h0b : w0.heap.size ≤ b) (hbw : b ≤ w.heap.size) (hbl : b ≤ gl) :
  Calls prog 206 #[.agg cs.toArray, .slice A nm.length c, .int .i64 fam, .int .i64 turn, .pointer (some ⟨gl, 0, none⟩)] w (PnRet w0 b gl (newP r nm (tysF fam) turn L) k Hn w) := by
 have hcl := h.len
 have HB : Below w.heap.size w (w.alloc (.cells cs.toArray 37)) := (Below.refl _ _).alloc (Nat.le_refl _) _
 have B0 := Blk.new w 37 cs
 have HD := Hh (fun W (hb : Below w.heap.size w W) => setHeld_in w0 cs r W (h.below hb) (below_then hw hw.size hb))
 have RB : Hid (∀ W, (Instr.build 42 #[(0, .agg cs.toArray)]).run prog W = .ok (.agg (cs ++ [nilS, nilS, nilS]).toArray) W) := Hh (fun W => by obtain ⟨A1, c1, A2, c2, A3, c3, rfl, _⟩ := h; exact rs_build ..)
 have CL := Hh (fun V (hV : Below w.heap.size w V) => clone_any A c nm V (hN.below hV) hnl)
 have hll : Hid (∀ l ∈ nm, l.length ≤ 140737488355328) := Hh hN.2.2.2
 have HLT := Hh hl
 have HW0 := Hh hw
 have HRL := Hh (heldR_len r)
 have HSI := Hh (startP_I (heldR r) nm (tysF fam) turn L k Hn (tysF_len fam) hu hd)
 obtain ⟨R, hR⟩ : ∃ R, Hid (newP r nm (tysF fam) turn L = R) := ⟨_, Hh rfl⟩
 rw [hR.out]
 obtain ⟨nn, hnn⟩ : ∃ nn, nm.length = nn := ⟨_, rfl⟩
 rw [hnn] at CL ⊢
 have HNN := Hh hnn
 unfold CloneRet at CL
 have hnn2 : nn ≤ 100000 := by omega
 clear h hN hl hu hd hw hnn hnl
 go_enter func206, ntmps206
 go_wp2_with (first
  | (refine at_op (.load 37 (.tmp 5)) rfl ?_; go_must (refine wpList_ldB rfl _ _ rfl w.heap.size 0 rfl B0 10 (by omega) _ underlying37 rfl rsI10 cs (tk0 (by omega)) ?_))
  | (refine at_op (.build 42 #[(0, .tmp 13)]) rfl ?_; go_must (refine wpList_bld rfl 42 _ rfl #[(0, .agg cs.toArray)] (by simp [Act.eval, Act.put]) (RB.out _) ?_)))
 refine (HD.out _ HB).mono ?_
 rintro _ w1 ⟨T, u1, u2, u3, rfl, RO, b1⟩
 have hT10 := RO.len
 have H1 := below_then HB HB.size b1
 have RBS := Hh (fun V => bld_Pr T hT10 turn gl V)
 have RO1 := Hh RO
 obtain ⟨L0, hL0⟩ : ∃ L0, Hid (prC T nilS turn gl nilS = L0) := ⟨_, Hh rfl⟩
 rw [hL0.out] at RBS
 have SL0 : L0.length = 14 := by rw [← hL0.out]; exact prC_len hT10 ..
 clear HB B0 HD RB RO b1
 have B2 := Blk.new w1 352 L0
 have H2 : Below w1.heap.size w1 (w1.alloc (.cells L0.toArray 352)) := (Below.refl _ _).alloc (Nat.le_refl _) _
 have hgw : w.heap.size ≤ w1.heap.size := H1.size
 have CL2 := Hh (CL.out _ (below_then H1 H1.size H2))
 rw [HNN.out] at CL2
 have H1' := Hh H1
 clear H1 CL
 go_wp2_with (first
  | (refine at_op (.field 42 (.tmp 15) 0) rfl ?_; go_must (refine wpList_fld rfl 42 (.tmp 15) 0 rfl rfl (fill_10 T hT10 u1 u2 u3 _) ?_))
  | (refine at_op (.build 352 #[(0, .tmp 16), (2, .tmp 17), (3, .tmp 18)]) rfl ?_; go_must (refine wpList_bld rfl 352 _ rfl #[(0, .agg T.toArray), (2, .int .i64 turn), (3, .pointer (some ⟨gl, 0, none⟩))] (by simp [Act.eval, Act.put]) (RBS.out _) ?_)))
 refine CL2.out.mono ?_
 rintro _ w3 ⟨An, cn, rfl, ho3, b3⟩
 have N3 : NmL w3 (.slice An nn cn) nm := ⟨by have := own_zero ho3; unfold Txts; rw [HNN.out]; exact this, by rw [HNN.out]; exact hnn2, hll.out⟩
 have B3 := B2.below b3 B2.lt
 have H3 := below_then H2 H2.size b3
 obtain ⟨g, hg⟩ : ∃ g, w1.heap.size = g := ⟨_, rfl⟩
 rw [hg, ← hL0.out] at B3
 rw [hg] at H3 hgw ⊢
 have HG := Hh hg
 have HN3 := Hh N3
 clear B2 H2 b3 CL2 RBS ho3 N3 hg SL0 hL0
 go_upto_if 24 with fail
 go_cut [] (fun wx => ∃ Aq cq l, Blk wx g 352 (prC T (.slice Aq (l : List Qn).length cq) turn gl nilS) ∧ Hid (LOwn wx g 218 3 (QI wx) (.slice Aq l.length cq) l) ∧ Hid (NmL wx (.slice An nn cn) nm) ∧ Below g w1 wx ∧ Hid (l = (if fam = 6 then [] else [⟨nm, 1, 1⟩])) ∧ l.length ≤ 1)
 case first =>
  by_cases h6 : fam = 6
  case pos =>
   subst h6
   go_wp2_with fail
   go_meet
   case rel => exact ⟨none, 0, [], B3, Hh (LOwn.nil _ _ _ _ _), HN3, H3, Hh rfl, Nat.zero_le _⟩
  case neg =>
   have h6' : (fam != 6) = true := by simpa using h6
   have h66 := Hh h6
   have HQ : Hid (LOwn w3 g 218 3 (QI w3) (.slice none ([] : List Qn).length 0) []) := Hh (LOwn.nil _ _ _ _ _)
   have B := B3
   have H := H3
   have HN := HN3
   have hlz : ([] : List Qn).length ≤ 1 := Nat.zero_le _
   have d10 : w3.cell? ⟨g, 10, none⟩ = some nilS := PrK.c ⟨B3, hT10⟩ 0 rfl
   clear B3 H3 HN3
   go_wp2_with (first
    | (refine at_op (.build 218 #[(0, .tmp 30), (1, .const (.int .i64 1)), (2, .const (.int .i64 1))]) rfl ?_; go_must (refine wpList_bld rfl 218 _ rfl #[(0, .slice An nn cn), (1, .int .i64 1), (2, .int .i64 1)] (by simp [Act.eval, Act.put]) (run_bq3 An nn cn 1 _) ?_))
    | (refine at_op (.buildSlice 278 1 #[(0, .tmp 31)]) rfl ?_; go_must (refine wpList_bsN rfl 278 218 _ 3 40 underlying278 qInfo3 (by decide) (by decide) (.tmp 31) rfl [.slice An nn cn, .int .i64 1, .int .i64 1] rfl rfl ?_)))
   intro wz Bz kz
   have Nz := HN.out.stays (Stays.below kz)
   have Qz := LOwn.below (R' := QI wz) HQ.out kz (fun _ _ ⟨v, e, n⟩ => ⟨v, e, n.stays (Stays.below kz)⟩)
   have hne := LOwn.ne HQ.out (Nat.le_refl _)
   have Pz := B.below kz B.lt
   have Hz := below_then H (Nat.le_of_lt B.lt) kz
   have QIz : QI wz [.slice An nn cn, .int .i64 1, .int .i64 1] ⟨nm, 1, 1⟩ := ⟨.slice An nn cn, rfl, Nz⟩
   have HPz := Hh Pz
   have HHz := Hh Hz
   have HQz := Hh Qz
   have HNz := Hh Nz
   clear kz Pz Hz Qz Nz B H HQ HN d10
   go_wp2_with (at_builtin; go_must (refine wpList_app1 _ rfl (.tmp 29) (.tmp 32) 278 rfl 218 _ 3 40 underlying278 qInfo3 (by kernel_rfl) (by decide) (R := QI wz) g _ ([] : List Qn) rfl HQz.out (Nat.le_of_lt HPz.out.lt) _ [.slice An nn cn, .int .i64 1, .int .i64 1] ⟨nm, 1, 1⟩ rfl Bz hne rfl (by simp [Value.oneCell']) QIz (by simp only [maxLen]; omega) (by omega) ?_))
   intro v' wa Oa ga
   have Ka : Stays wz wa := by obtain ⟨css, ho5, _⟩ := HQz.out; exact Stays.own ho5 (by decide) ga
   have Na := HNz.out.stays Ka
   have Qa : LOwn wa g 218 3 (QI wa) v' (([] : List Qn) ++ [⟨nm, 1, 1⟩]) := Oa.stays (R' := QI wa) (fun _ x => x) (fun _ _ ⟨v, e, n⟩ => ⟨v, e, n.stays Ka⟩)
   have Pa : Blk wa g 352 (prC T (.slice none (([] : List Qn)).length 0) turn gl nilS) := LOwn.keep HQz.out HPz.out (by decide) ga
   have Ha := HHz.out.grown ga (Nat.le_of_lt HPz.out.lt) HQz.out.base
   obtain ⟨A', c', hv'⟩ := Qa.form
   obtain ⟨l2, hl2⟩ : ∃ l2, Hid (([] : List Qn) ++ [⟨nm, 1, 1⟩] = l2) := ⟨_, Hh rfl⟩
   rw [hl2.out] at Qa hv'
   subst hv'
   obtain ⟨La, hLa⟩ : ∃ La, Hid (prC T (.slice none (([] : List Qn)).length 0) turn gl nilS = La) := ⟨_, Hh rfl⟩
   have SLa : La.length = 14 := by rw [← hLa.out]; exact prC_len hT10 ..
   rw [hLa.out] at Pa
   have HQa := Hh Qa
   have HNa := Hh Na
   have HHa := Hh Ha
   clear HPz HHz HQz HNz Oa ga Ka Na Qa Ha Bz hne QIz
   go_wp2_with (refine at_op (.store 278 (.tmp 35) (.tmp 33)) rfl ?_; go_must (refine wpList_stC rfl 278 (.tmp 35) (.tmp 33) rfl g 10 rfl (.slice A' l2.length c') rfl Pa (by rw [SLa]; decide) qsI1 rfl rfl ?_))
   intro wb Bb gb sw
   clear sw
   rw [← hLa.out, prC_set10 hT10] at Bb
   have Kb : Stays wa wb := Stays.blk gb Pa (by decide)
   have Nb := Hh (HNa.out.stays Kb)
   have Qb : Hid (LOwn wb g 218 3 (QI wb) (.slice A' l2.length c') l2) := Hh ((HQa.out.blk gb Pa (by decide)).stays (R' := QI wb) (fun _ x => x) (fun _ _ ⟨v, e, n⟩ => ⟨v, e, n.stays Kb⟩))
   have Hb := below_grown HHa.out gb (Nat.le_of_lt Pa.lt) (Nat.le_refl _)
   have hl2' := hl2.out
   have hl2n : l2.length ≤ 1 := by rw [← hl2.out]; exact Nat.le_refl 1
   go_wp2_with fail
   go_meet
   case rel => exact ⟨A', c', l2, Bb, Qb, Nb, Hb, Hh (by rw [if_neg h66.out, ← hl2.out]; rfl), hl2n⟩
 obtain ⟨Aq, cq, l, B, HQ, HN, H, HLQ, hl1⟩ := hcut
 obtain ⟨w4, rfl⟩ : ∃ w4, w4 = wc := ⟨_, rfl⟩
 clear B3 H3 HN3
 go_upto_if 37 with fail
 go_cut [] (fun wx => ∃ Aq cq l, Blk wx g 352 (prC T (.slice Aq (l : List Qn).length cq) turn gl nilS) ∧ Hid (LOwn wx g 218 3 (QI wx) (.slice Aq l.length cq) l) ∧ Hid (NmL wx (.slice An nn cn) nm) ∧ Below g w1 wx ∧ Hid (l = (tysF fam).map (fun t => ⟨nm, t, 1⟩)))
 case first =>
  by_cases h4 : fam = 4
  case pos =>
   subst h4
   have HL3 : Hid (l = (tysF 4).map (fun t => ⟨nm, t, 1⟩)) := Hh (by rw [HLQ.out]; rfl)
   go_wp2_with fail
   go_meet
   case rel => exact ⟨Aq, cq, l, B, HQ, HN, H, HL3⟩
  case neg =>
   have h4' : (fam != 4) = true := by simpa using h4
   have h44 := Hh h4
   have d10 : w4.cell? ⟨g, 10, none⟩ = some (.slice Aq l.length cq) := PrK.c ⟨B, hT10⟩ 0 rfl
   go_wp2_with (first
    | (refine at_op (.build 218 #[(0, .tmp 43), (1, .const (.int .i64 28)), (2, .const (.int .i64 1))]) rfl ?_; go_must (refine wpList_bld rfl 218 _ rfl #[(0, .slice An nn cn), (1, .int .i64 28), (2, .int .i64 1)] (by simp [Act.eval, Act.put]) (run_bq3 An nn cn 28 _) ?_))
    | (refine at_op (.buildSlice 278 1 #[(0, .tmp 44)]) rfl ?_; go_must (refine wpList_bsN rfl 278 218 _ 3 40 underlying278 qInfo3 (by decide) (by decide) (.tmp 44) rfl [.slice An nn cn, .int .i64 28, .int .i64 1] rfl rfl ?_)))
   intro wz Bz kz
   have Nz := HN.out.stays (Stays.below kz)
   have Qz := LOwn.below (R' := QI wz) HQ.out kz (fun _ _ ⟨v, e, n⟩ => ⟨v, e, n.stays (Stays.below kz)⟩)
   have hne := LOwn.ne HQ.out (Nat.le_refl _)
   have Pz := B.below kz B.lt
   have Hz := below_then H (Nat.le_of_lt B.lt) kz
   have QIz : QI wz [.slice An nn cn, .int .i64 28, .int .i64 1] ⟨nm, 28, 1⟩ := ⟨.slice An nn cn, rfl, Nz⟩
   have HPz := Hh Pz
   have HHz := Hh Hz
   have HQz := Hh Qz
   have HNz := Hh Nz
   clear kz Pz Hz Qz Nz B H HQ HN d10
   go_wp2_with (at_builtin; go_must (refine wpList_app1 _ rfl (.tmp 42) (.tmp 45) 278 rfl 218 _ 3 40 underlying278 qInfo3 (by kernel_rfl) (by decide) (R := QI wz) g _ l rfl HQz.out (Nat.le_of_lt HPz.out.lt) _ [.slice An nn cn, .int .i64 28, .int .i64 1] ⟨nm, 28, 1⟩ rfl Bz hne rfl (by simp [Value.oneCell']) QIz (by simp only [maxLen]; omega) (by omega) ?_))
   intro v' wa Oa ga
   have Ka : Stays wz wa := by obtain ⟨css, ho5, _⟩ := HQz.out; exact Stays.own ho5 (by decide) ga
   have Na := HNz.out.stays Ka
   have Qa : LOwn wa g 218 3 (QI wa) v' (l ++ [⟨nm, 28, 1⟩]) := Oa.stays (R' := QI wa) (fun _ x => x) (fun _ _ ⟨v, e, n⟩ => ⟨v, e, n.stays Ka⟩)
   have Pa : Blk wa g 352 (prC T (.slice Aq (l).length cq) turn gl nilS) := LOwn.keep HQz.out HPz.out (by decide) ga
   have Ha := HHz.out.grown ga (Nat.le_of_lt HPz.out.lt) HQz.out.base
   obtain ⟨A', c', hv'⟩ := Qa.form
   obtain ⟨l2, hl2⟩ : ∃ l2, Hid (l ++ [⟨nm, 28, 1⟩] = l2) := ⟨_, Hh rfl⟩
   rw [hl2.out] at Qa hv'
   subst hv'
   obtain ⟨La, hLa⟩ : ∃ La, Hid (prC T (.slice Aq (l).length cq) turn gl nilS = La) := ⟨_, Hh rfl⟩
   have SLa : La.length = 14 := by rw [← hLa.out]; exact prC_len hT10 ..
   rw [hLa.out] at Pa
   have HQa := Hh Qa
   have HNa := Hh Na
   have HHa := Hh Ha
   clear HPz HHz HQz HNz Oa ga Ka Na Qa Ha Bz hne QIz
   go_wp2_with (refine at_op (.store 278 (.tmp 48) (.tmp 46)) rfl ?_; go_must (refine wpList_stC rfl 278 (.tmp 48) (.tmp 46) rfl g 10 rfl (.slice A' l2.length c') rfl Pa (by rw [SLa]; decide) qsI1 rfl rfl ?_))
   intro wb Bb gb sw
   clear sw
   rw [← hLa.out, prC_set10 hT10] at Bb
   have Kb : Stays wa wb := Stays.blk gb Pa (by decide)
   have Nb := Hh (HNa.out.stays Kb)
   have Qb : Hid (LOwn wb g 218 3 (QI wb) (.slice A' l2.length c') l2) := Hh ((HQa.out.blk gb Pa (by decide)).stays (R' := QI wb) (fun _ x => x) (fun _ _ ⟨v, e, n⟩ => ⟨v, e, n.stays Kb⟩))
   have Hb := below_grown HHa.out gb (Nat.le_of_lt Pa.lt) (Nat.le_refl _)
   have HL3 : Hid (l2 = (tysF fam).map (fun t => ⟨nm, t, 1⟩)) := Hh (by
    rw [← hl2.out, HLQ.out]
    unfold tysF
    rw [if_neg h44.out]
    split <;> rfl)
   go_wp2_with fail
   go_meet
   case rel => exact ⟨A', c', l2, Bb, Qb, Nb, Hb, HL3⟩
 obtain ⟨Aq2, cq2, l2, B2, HQ2, HN2, H2, HL2⟩ := hcut
 obtain ⟨w5, rfl⟩ : ∃ w5, w5 = wc := ⟨_, rfl⟩
 have HBw : Below w.heap.size w w5 := by
  refine H1'.out.trans ?_
  exact H2.mono hgw
 have RO2 := RO1.out.below (below_eq HG.out H2)
 have BA := below_then HW0.out HW0.out.size HBw
 have hbg : b ≤ g := by omega
 have hbw5 : b ≤ w5.heap.size := Nat.le_trans hbw HBw.size
 have AT : PrAt w0 w5 b g gl [] (startP (heldR r) nm (tysF fam) turn) := ⟨⟨T, _, nilS, ⟨B2, hT10⟩, RO2, by show QsC w5 _ ((tysF fam).map (fun t => ⟨nm, t, 1⟩)); rw [← HL2.out]; exact LOwn.zero HQ2.out, LOwn.nil _ _ _ _ _⟩, XsAt.nil _ _ _, BA, h0b, hbg, hbl, HRL.out⟩
 have BG := Hh (pbegin_any w0 b g gl [] (startP (heldR r) nm (tysF fam) turn) L 0 k Hn w5 AT (HLT.out.below HBw) HSI.out (by omega) hbw5 (by show nm.length ≤ 100000; rw [HNN.out]; exact hnn2))
 have hRR : Hid (beginP 3 (startP (heldR r) nm (tysF fam) turn) L [] = R) := Hh (by rw [← hR.out]; rfl)
 rw [hRR.out] at BG
 unfold PrRetI PrRet at BG
 have FB := Hh (Fr.below (S := TyS w PrTy b) HBw)
 clear AT BA RO2 B2 HQ2 HN2 H2 HL2 HSI HLT HBw
 go_wp2_with fail
 refine BG.out.mono ?_
 rintro _ w6 ⟨⟨v6, X6, rfl, o6, a6, l6, f6⟩, pi6, go6⟩
 have HF := Hh (Fr.transT FB.out f6)
 have HQ := Hh (And.intro (o6.mono FB.out.size) (And.intro a6 (And.intro l6 (And.intro pi6 go6))))
 clear BG o6 a6 l6 f6 pi6 go6
 go_wp2_with fail
 go_ret2
 obtain ⟨o6, a6, l6, pi6, go6⟩ := HQ.out
 exact ⟨g, v6, X6, rfl, o6, a6, l6, HF.out, pi6, go6, hgw⟩
end Go.Proofs.YteimenplbanooaaGreatDoor
