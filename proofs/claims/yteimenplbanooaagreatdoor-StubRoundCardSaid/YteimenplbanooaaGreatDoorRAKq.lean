/-
  Layer 14 (message): Check.
-/
import Derived.Test.YteimenplbanooaaGreatDoorRAJq
import Derived.Test.YteimenplbanooaaGreatDoorRAGq
namespace Go.Proofs.YteimenplbanooaaGreatDoor
open _root_.Go.Proofs.Tryz
open Go.RowKit
set_option maxRecDepth 100000
set_option linter.unusedVariables false
set_option linter.unusedSimpArgs false
set_option maxHeartbeats 4000000 in
theorem mcheck_any (cs : List Value) (m : Msg) (Aq Aa Au Ae : Option Addr) (cq ca cu ce : Nat) (w : World) (h : MsgIs w cs m Aq Aa Au Ae cq ca cu ce) :
  Calls prog 294 #[.agg cs.toArray] w (RetB (.int .i64 (checkM m)) w) := by
 have hcs := h.hcs
 have hl : cs.length = 14 := by rw [hcs]; exact msgC_len _ _ _ _ _
 have L10 : cs[10]? = some (.slice Aq m.qs.length cq) := by rw [hcs]; rfl
 have LH : (cs.drop 0).take 10 = m.hd.vals := by rw [hcs]; rfl
 have LI := Hh (fun w => lists_any m.hd (.slice Aq m.qs.length cq) Aa Au Ae m.an.length m.au.length m.ex.length ca cu ce w)
 rw [← hcs] at LI
 have CH : Hid (∀ w, Calls prog 316 #[.agg m.hd.vals.toArray] w (RetB (.int .i64 (if m.hd.ok then 0 else 4)) w)) := Hh (fun w => check_any m.hd w)
 have lq := h.lq
 have la := h.la
 have lu := h.lu
 have le := h.le
 have hq := h.hq
 have ha := h.ha
 have hu := h.hu
 have he := h.he
 have HE := Hh (checkM_eq m)
 have FQ := Hh (fstM_ok qE m.qs)
 have FQ' := Hh (fstM_bad qE m.qs)
 have FA := Hh (fstM_ok checkR m.an)
 have FA' := Hh (fstM_bad checkR m.an)
 have FU := Hh (fstM_ok checkR m.au)
 have FU' := Hh (fstM_bad checkR m.au)
 have FE := Hh (fstM_ok checkR m.ex)
 have FE' := Hh (fstM_bad checkR m.ex)
 clear h hcs
 generalize checkM m = res at *
 generalize fstE (m.qs.map qE) = fq at *
 generalize fstE (m.an.map checkR) = fa at *
 generalize fstE (m.au.map checkR) = fu at *
 generalize fstE (m.ex.map checkR) = fe at *
 generalize m.hd.vals = HV at *
 generalize m.hd.ok = ok at *
 generalize m.qs = Q at *
 generalize m.an = LA at *
 generalize m.au = LU at *
 generalize m.ex = LE at *
 have B0 := Blk.new w 280 cs
 have HB0 : Below w.heap.size w (w.alloc (.cells cs.toArray 280)) := (Below.refl _ _).alloc (Nat.le_refl _) _
 go_enter func294, ntmps294
 go_wp2_with (refine at_op (.load 277 (.tmp 14)) rfl ?_; go_must (refine wpList_ldB rfl _ _ rfl w.heap.size 0 rfl B0 10 (by omega) _ underlying277 rfl hdInfo HV LH ?_))
 go_wp2_with fail
 refine (CH.out _).mono ?_
 rintro _ w1 ⟨rfl, b1⟩
 have B1 := B0.below b1 B0.lt
 have HB1 := below_then HB0 HB0.size b1
 clear B0 HB0 b1 CH
 cases ok with
 | false =>
  have hr0 := HE.out.trans (if_pos rfl)
  subst hr0
  clear HE
  go_wp2_with fail
  go_ret
  exact RetB.mk rfl HB1
 | true =>
 have HE1 := Hh (HE.out.trans (if_neg (by simp)))
 clear HE
 have c10 := B1.cell_ 10 L10
 by_cases h1 : 65535 < Q.length
 case pos =>
  have h1' : (65535 : Int) < Q.length := by omega
  have hr0 := HE1.out.trans (if_pos (.inl h1))
  subst hr0
  clear HE1 h1
  go_wp2_with fail
  go_ret
  exact RetB.mk rfl HB1
 have h1' : ¬ (65535 : Int) < Q.length := by omega
 go_wp2_with (refine at_op (.load 280 (.tmp 1)) rfl ?_; go_must (refine wpList_ldB rfl _ _ rfl w.heap.size 0 rfl B1 14 (by omega) _ underlying280 rfl msgInfo cs (tk0 (by omega)) ?_))
 go_wp2_with fail
 refine (LI.out _).mono ?_
 rintro _ w2 ⟨rfl, b2⟩
 have B2 := B1.below b2 B1.lt
 have HB2 := below_then HB1 HB1.size b2
 clear B1 HB1 b2 c10
 have I0 : ∀ w : World, (Instr.index 407 (.agg #[.slice Aa LA.length ca, .slice Au LU.length cu, .slice Ae LE.length ce]) (.int .i64 0)).run prog w = .ok (.slice Aa LA.length ca) w := fun _ => by kernel_rfl
 have I1 : ∀ w : World, (Instr.index 407 (.agg #[.slice Aa LA.length ca, .slice Au LU.length cu, .slice Ae LE.length ce]) (.int .i64 1)).run prog w = .ok (.slice Au LU.length cu) w := fun _ => by kernel_rfl
 have I2 : ∀ w : World, (Instr.index 407 (.agg #[.slice Aa LA.length ca, .slice Au LU.length cu, .slice Ae LE.length ce]) (.int .i64 2)).run prog w = .ok (.slice Ae LE.length ce) w := fun _ => by kernel_rfl
 go_wp2_with fail
 refine wp_loop_rounds 4 ?_
 rw [rounds_succ]
 by_cases h2 : 65535 < LA.length
 case pos =>
  have h2' : (65535 : Int) < LA.length := by omega
  have hr0 := HE1.out.trans (if_pos (.inr (.inl h2)))
  subst hr0
  clear HE1 h2 h1
  go_wp2_with fail
  go_ret
  exact RetB.mk rfl HB2
 have h2' : ¬ (65535 : Int) < LA.length := by omega
 go_wp2_with fail
 rw [rounds_succ]
 by_cases h3 : 65535 < LU.length
 case pos =>
  have h3' : (65535 : Int) < LU.length := by omega
  have hr0 := HE1.out.trans (if_pos (.inr (.inr (.inl h3))))
  subst hr0
  clear HE1 h3 h2 h1
  go_wp2_with fail
  go_ret
  exact RetB.mk rfl HB2
 have h3' : ¬ (65535 : Int) < LU.length := by omega
 go_wp2_with fail
 rw [rounds_succ]
 by_cases h4 : 65535 < LE.length
 case pos =>
  have h4' : (65535 : Int) < LE.length := by omega
  have hr0 := HE1.out.trans (if_pos (.inr (.inr (.inr h4))))
  subst hr0
  clear HE1 h4 h3 h2 h1
  go_wp2_with fail
  go_ret
  exact RetB.mk rfl HB2
 have h4' : ¬ (65535 : Int) < LE.length := by omega
 have HE2 := Hh (HE1.out.trans (if_neg (by omega)))
 clear HE1
 go_wp2_with fail
 rw [rounds_succ]
 have c10 := B2.cell_ 10 L10
 go_wp2_with fail
 clear I0 I1 I2 h1 h2 h3 h4
 go_loopw [36] (fun iv wr => ∃ k : Nat, k ≤ Q.length ∧ iv = .int .i64 k ∧ Hid (∀ j (hj : j < Q.length), j < k → qE Q[j] = 0) ∧ Below w2.heap.size w2 wr) (fun iv _ => Q.length - (intOf iv).toNat)
 case atStart => exact ⟨0, Nat.zero_le _, rfl, Hh (fun j hj h => by omega), Below.refl _ _⟩
 case round =>
  obtain ⟨k, hk, rfl, HJ, hb⟩ := hrel
  have HBr := below_then HB2 (below_size_le HB2 (Nat.le_refl _)) hb
  by_cases hlt : k < Q.length
  ·
   have hlt' : (k : Int) < Q.length := by omega
   obtain ⟨ba, oa, hA, hba, hel⟩ := hq (by omega)
   subst hA
   obtain ⟨An, cn, hrg, hN⟩ := hel k hlt
   have hRk := range_below hrg HBr hba
   unfold qC at hRk
   have CK := Hh (fun w' (b : Below w.heap.size w w') => dcheck_any An cn Q[k].name w' (hN.below b).1 (by have := hN.2.2.1; omega))
   have W1 := Hh (fun w => mwithin_any Q[k].ty w)
   have W2 := Hh (fun w => mwithin_any Q[k].cl w)
   have FK := Hh (FQ'.out k hlt HJ.out)
   have HJ2 := Hh (fun (hz : qE Q[k] = 0) j (hj : j < Q.length) (hjk : j < k + 1) => (by by_cases e : j = k; (subst e; exact hz); exact HJ.out j hj (by omega) : qE Q[j] = 0))
   have HQ : Hid (qE Q[k] = _) := Hh (by unfold qE; rfl)
   clear hel hrg hN HJ
   generalize qE (Q[k]'hlt) = qe at *
   generalize checkN (Q[k]'hlt).name = e0 at *
   generalize (Q[k]'hlt).name.length = nl at *
   generalize inB 65535 (Q[k]'hlt).ty = i1 at *
   generalize inB 65535 (Q[k]'hlt).cl = i2 at *
   generalize (Q[k]'hlt).ty = ty at *
   generalize (Q[k]'hlt).cl = cl at *
   go_wp2_with (refine at_op (.load 218 (.tmp 38)) rfl ?_; go_must (refine wpList_ldR rfl 218 (.tmp 38) rfl ba (oa + k * 3) rfl [.slice An nl cn, .int .i64 ty, .int .i64 cl] hRk _ underlying218 rfl qInfo ?_))
   have HBn := HBr.alloc HBr.size (.cells #[.slice An nl cn, .int .i64 ty, .int .i64 cl] 218)
   have hbn := hb.alloc hb.size (.cells #[.slice An nl cn, .int .i64 ty, .int .i64 cl] 218)
   refine (CK.out _ HBn).mono ?_
   rintro _ w4 ⟨rfl, rfl⟩
   clear CK hRk HBr hb
   by_cases he0 : e0 = 0
   case neg =>
    have e1 : (e0 != 0) = true := by simpa using he0
    have e2 := HQ.out.trans (if_pos he0)
    subst e2
    have e3 := FK.out he0
    subst e3
    have hr0 := HE2.out.trans (if_pos he0)
    subst hr0
    clear HE2 FK HJ2 HQ he0
    go_wp2_with fail
    go_ret
    exact RetB.mk rfl HBn
   subst he0
   replace HQ := Hh (HQ.out.trans (if_neg (by simp)))
   go_wp2_with fail
   refine (W1.out _).mono ?_
   rintro _ w4 ⟨rfl, rfl⟩
   clear W1
   cases i1 with
   | false =>
    have e2 : qe = 4 := HQ.out
    subst e2
    have e3 := FK.out (by decide)
    subst e3
    have hr0 := HE2.out.trans (if_pos (by decide))
    subst hr0
    clear HE2 FK HJ2 HQ
    go_wp2_with fail
    go_ret
    exact RetB.mk rfl HBn
   | true =>
   go_wp2_with fail
   refine (W2.out _).mono ?_
   rintro _ w4 ⟨rfl, rfl⟩
   clear W2
   cases i2 with
   | false =>
    have e2 : qe = 4 := HQ.out
    subst e2
    have e3 := FK.out (by decide)
    subst e3
    have hr0 := HE2.out.trans (if_pos (by decide))
    subst hr0
    clear HE2 FK HJ2 HQ
    go_wp2_with fail
    go_ret
    exact RetB.mk rfl HBn
   | true =>
    have e2 : qe = 0 := HQ.out
    subst e2
    clear HQ
    go_wp2_with fail
    go_roundw
    case rel => exact ⟨k + 1, by omega, by go_num, Hh (HJ2.out trivial), hbn⟩
    case measure => simp [intOf]; omega
  ·
   obtain rfl : k = Q.length := by omega
   have hf0 := FQ.out (fun j hj => HJ.out j hj hj)
   subst hf0
   have HEX := Hh (HE2.out.trans (if_neg (by simp)))
   have hlt' : ¬ (Q.length : Int) < Q.length := by omega
   have B3 := B2.below hb B2.lt
   have HB3 := HBr
   clear HJ hlt FQ FQ' HE2 HBr hb B2 HB2 c10 hq
   go_wp2_with (refine at_op (.load 280 (.tmp 1)) rfl ?_; go_must (refine wpList_ldB rfl _ _ rfl w.heap.size 0 rfl B3 14 (by omega) _ underlying280 rfl msgInfo cs (tk0 (by omega)) ?_))
   refine (LI.out _).mono ?_
   rintro _ wa ⟨rfl, ba⟩
   have HBa := below_then HB3 HB3.size ba
   clear B3 HB3 ba LI
   have I0 : ∀ w : World, (Instr.index 407 (.agg #[.slice Aa LA.length ca, .slice Au LU.length cu, .slice Ae LE.length ce]) (.int .i64 0)).run prog w = .ok (.slice Aa LA.length ca) w := fun _ => by kernel_rfl
   have I1 : ∀ w : World, (Instr.index 407 (.agg #[.slice Aa LA.length ca, .slice Au LU.length cu, .slice Ae LE.length ce]) (.int .i64 1)).run prog w = .ok (.slice Au LU.length cu) w := fun _ => by kernel_rfl
   have I2 : ∀ w : World, (Instr.index 407 (.agg #[.slice Aa LA.length ca, .slice Au LU.length cu, .slice Ae LE.length ce]) (.int .i64 2)).run prog w = .ok (.slice Ae LE.length ce) w := fun _ => by kernel_rfl
   go_wp2_with fail
   refine wp_loop_rounds 4 ?_
   have HBr := HBa
   clear HBa
   rw [rounds_succ]
   go_wp2_with fail
   go_loopw [64] (fun iv wr => ∃ k : Nat, k ≤ LA.length ∧ iv = .int .i64 k ∧ Hid (∀ j (hj : j < LA.length), j < k → checkR LA[j] = 0) ∧ Below w.heap.size w wr) (fun iv _ => LA.length - (intOf iv).toNat)
   case atStart => exact ⟨0, Nat.zero_le _, rfl, Hh (fun j hj h => by omega), HBr⟩
   clear HBr
   obtain ⟨k, hk, rfl, HJ, HBr⟩ := hrel
   by_cases hlt : k < LA.length
   case pos =>
    have hlt' : (k : Int) < LA.length := by omega
    obtain ⟨ba, oa, hA, hba, hel⟩ := ha (by omega)
    subst hA
    obtain ⟨ck, hrg, hRR⟩ := hel k hlt
    have hRk := range_below hrg HBr hba
    have ckl := hRR.len
    have ck1 := Hh hRR.one
    have CK := Hh (fun w' (b : Below w.heap.size w w') => rcheck_any ck LA[k] w' (hRR.below b))
    have FK := Hh ((FA').out k hlt HJ.out)
    have HJ2 := Hh (fun (hz : checkR LA[k] = 0) j (hj : j < LA.length) (hjk : j < k + 1) => (by by_cases e : j = k; (subst e; exact hz); exact HJ.out j hj (by omega) : checkR LA[j] = 0))
    clear hel hrg hRR HJ
    generalize checkR (LA[k]'hlt) = ek at *
    go_wp2_with (first
     | (refine at_op (.load 96 (.tmp 66)) rfl ?_; go_must (refine wpList_ldR rfl 96 (.tmp 66) rfl ba (oa + k * 33) rfl ck hRk _ underlying96 rfl (by rw [ckl]; exact rrInfo) ?_))
     | (refine at_op (.store 96 (.tmp 12) (.tmp 67)) rfl ?_; go_must (refine wpList_stB rfl _ _ _ rfl wr.heap.size 0 rfl ck rfl (Blk.new' _ _ rrZ _ (by simp)) (by rw [rrZ_len]; omega) (by rw [ckl]; exact rrInfo) ck1.out ?_)))
    intro w3 hb3 hg3 hs3
    rw [List.drop_of_length_le (by rw [rrZ_len]; omega), List.append_nil] at hb3
    have HB3 : Below w.heap.size w w3 := below_grown (HBr.alloc HBr.size _) hg3 (by have := HBr.size; simp; omega) HBr.size
    clear hg3 hs3 hRk HBr
    go_wp2_with (refine at_op (.load 96 (.tmp 12)) rfl ?_; go_must (refine wpList_ldB rfl _ _ rfl wr.heap.size 0 rfl hb3 33 (by omega) _ underlying96 rfl rrInfo ck (tk0 (by omega)) ?_))
    refine (CK.out _ HB3).mono ?_
    rintro _ w4 ⟨rfl, b4⟩
    have HB4 := below_then HB3 HB3.size b4
    clear CK hb3 b4 HB3
    by_cases he0 : ek = 0
    ·
     subst he0
     go_wp2_with fail
     go_roundw
     case rel => exact ⟨k + 1, by omega, by go_num, Hh (HJ2.out trivial), HB4⟩
     case measure => simp [intOf]; omega
    ·
     have e1 : (ek != 0) = true := by simpa using he0
     have e2 := FK.out he0
     subst e2
     have hr0 := HEX.out.trans (if_pos he0)
     subst hr0
     clear HEX FK HJ2 he0
     go_wp2_with fail
     go_ret
     exact RetB.mk rfl HB4
   obtain rfl : k = LA.length := by omega
   have hf0 := (FA).out (fun j hj => HJ.out j hj hj)
   subst hf0
   replace HEX := Hh (HEX.out.trans (if_neg (by simp)))
   have hlt' : ¬ (LA.length : Int) < LA.length := by omega
   clear HJ hlt hk FA FA'
   go_wp2_with fail
   rw [rounds_succ]
   go_wp2_with fail
   go_loopw [64] (fun iv wr => ∃ k : Nat, k ≤ LU.length ∧ iv = .int .i64 k ∧ Hid (∀ j (hj : j < LU.length), j < k → checkR LU[j] = 0) ∧ Below w.heap.size w wr) (fun iv _ => LU.length - (intOf iv).toNat)
   case atStart => exact ⟨0, Nat.zero_le _, rfl, Hh (fun j hj h => by omega), HBr⟩
   clear HBr
   obtain ⟨k, hk, rfl, HJ, HBr⟩ := hrel
   by_cases hlt : k < LU.length
   case pos =>
    have hlt' : (k : Int) < LU.length := by omega
    obtain ⟨ba, oa, hA, hba, hel⟩ := hu (by omega)
    subst hA
    obtain ⟨ck, hrg, hRR⟩ := hel k hlt
    have hRk := range_below hrg HBr hba
    have ckl := hRR.len
    have ck1 := Hh hRR.one
    have CK := Hh (fun w' (b : Below w.heap.size w w') => rcheck_any ck LU[k] w' (hRR.below b))
    have FK := Hh ((FU').out k hlt HJ.out)
    have HJ2 := Hh (fun (hz : checkR LU[k] = 0) j (hj : j < LU.length) (hjk : j < k + 1) => (by by_cases e : j = k; (subst e; exact hz); exact HJ.out j hj (by omega) : checkR LU[j] = 0))
    clear hel hrg hRR HJ
    generalize checkR (LU[k]'hlt) = ek at *
    go_wp2_with (first
     | (refine at_op (.load 96 (.tmp 66)) rfl ?_; go_must (refine wpList_ldR rfl 96 (.tmp 66) rfl ba (oa + k * 33) rfl ck hRk _ underlying96 rfl (by rw [ckl]; exact rrInfo) ?_))
     | (refine at_op (.store 96 (.tmp 12) (.tmp 67)) rfl ?_; go_must (refine wpList_stB rfl _ _ _ rfl wr.heap.size 0 rfl ck rfl (Blk.new' _ _ rrZ _ (by simp)) (by rw [rrZ_len]; omega) (by rw [ckl]; exact rrInfo) ck1.out ?_)))
    intro w3 hb3 hg3 hs3
    rw [List.drop_of_length_le (by rw [rrZ_len]; omega), List.append_nil] at hb3
    have HB3 : Below w.heap.size w w3 := below_grown (HBr.alloc HBr.size _) hg3 (by have := HBr.size; simp; omega) HBr.size
    clear hg3 hs3 hRk HBr
    go_wp2_with (refine at_op (.load 96 (.tmp 12)) rfl ?_; go_must (refine wpList_ldB rfl _ _ rfl wr.heap.size 0 rfl hb3 33 (by omega) _ underlying96 rfl rrInfo ck (tk0 (by omega)) ?_))
    refine (CK.out _ HB3).mono ?_
    rintro _ w4 ⟨rfl, b4⟩
    have HB4 := below_then HB3 HB3.size b4
    clear CK hb3 b4 HB3
    by_cases he0 : ek = 0
    ·
     subst he0
     go_wp2_with fail
     go_roundw
     case rel => exact ⟨k + 1, by omega, by go_num, Hh (HJ2.out trivial), HB4⟩
     case measure => simp [intOf]; omega
    ·
     have e1 : (ek != 0) = true := by simpa using he0
     have e2 := FK.out he0
     subst e2
     have hr0 := HEX.out.trans (if_pos he0)
     subst hr0
     clear HEX FK HJ2 he0
     go_wp2_with fail
     go_ret
     exact RetB.mk rfl HB4
   obtain rfl : k = LU.length := by omega
   have hf0 := (FU).out (fun j hj => HJ.out j hj hj)
   subst hf0
   replace HEX := Hh (HEX.out.trans (if_neg (by simp)))
   have hlt' : ¬ (LU.length : Int) < LU.length := by omega
   clear HJ hlt hk FU FU'
   go_wp2_with fail
   replace HEX : Hid (res = if fe ≠ 0 then fe else 0) := Hh (by rw [HEX.out]; by_cases h : fe = 0 <;> simp [h])
   rw [rounds_succ]
   go_wp2_with fail
   go_loopw [64] (fun iv wr => ∃ k : Nat, k ≤ LE.length ∧ iv = .int .i64 k ∧ Hid (∀ j (hj : j < LE.length), j < k → checkR LE[j] = 0) ∧ Below w.heap.size w wr) (fun iv _ => LE.length - (intOf iv).toNat)
   case atStart => exact ⟨0, Nat.zero_le _, rfl, Hh (fun j hj h => by omega), HBr⟩
   clear HBr
   obtain ⟨k, hk, rfl, HJ, HBr⟩ := hrel
   by_cases hlt : k < LE.length
   case pos =>
    have hlt' : (k : Int) < LE.length := by omega
    obtain ⟨ba, oa, hA, hba, hel⟩ := he (by omega)
    subst hA
    obtain ⟨ck, hrg, hRR⟩ := hel k hlt
    have hRk := range_below hrg HBr hba
    have ckl := hRR.len
    have ck1 := Hh hRR.one
    have CK := Hh (fun w' (b : Below w.heap.size w w') => rcheck_any ck LE[k] w' (hRR.below b))
    have FK := Hh ((FE').out k hlt HJ.out)
    have HJ2 := Hh (fun (hz : checkR LE[k] = 0) j (hj : j < LE.length) (hjk : j < k + 1) => (by by_cases e : j = k; (subst e; exact hz); exact HJ.out j hj (by omega) : checkR LE[j] = 0))
    clear hel hrg hRR HJ
    generalize checkR (LE[k]'hlt) = ek at *
    go_wp2_with (first
     | (refine at_op (.load 96 (.tmp 66)) rfl ?_; go_must (refine wpList_ldR rfl 96 (.tmp 66) rfl ba (oa + k * 33) rfl ck hRk _ underlying96 rfl (by rw [ckl]; exact rrInfo) ?_))
     | (refine at_op (.store 96 (.tmp 12) (.tmp 67)) rfl ?_; go_must (refine wpList_stB rfl _ _ _ rfl wr.heap.size 0 rfl ck rfl (Blk.new' _ _ rrZ _ (by simp)) (by rw [rrZ_len]; omega) (by rw [ckl]; exact rrInfo) ck1.out ?_)))
    intro w3 hb3 hg3 hs3
    rw [List.drop_of_length_le (by rw [rrZ_len]; omega), List.append_nil] at hb3
    have HB3 : Below w.heap.size w w3 := below_grown (HBr.alloc HBr.size _) hg3 (by have := HBr.size; simp; omega) HBr.size
    clear hg3 hs3 hRk HBr
    go_wp2_with (refine at_op (.load 96 (.tmp 12)) rfl ?_; go_must (refine wpList_ldB rfl _ _ rfl wr.heap.size 0 rfl hb3 33 (by omega) _ underlying96 rfl rrInfo ck (tk0 (by omega)) ?_))
    refine (CK.out _ HB3).mono ?_
    rintro _ w4 ⟨rfl, b4⟩
    have HB4 := below_then HB3 HB3.size b4
    clear CK hb3 b4 HB3
    by_cases he0 : ek = 0
    ·
     subst he0
     go_wp2_with fail
     go_roundw
     case rel => exact ⟨k + 1, by omega, by go_num, Hh (HJ2.out trivial), HB4⟩
     case measure => simp [intOf]; omega
    ·
     have e1 : (ek != 0) = true := by simpa using he0
     have e2 := FK.out he0
     subst e2
     have hr0 := HEX.out.trans (if_pos he0)
     subst hr0
     clear HEX FK HJ2 he0
     go_wp2_with fail
     go_ret
     exact RetB.mk rfl HB4
   obtain rfl : k = LE.length := by omega
   have hf0 := (FE).out (fun j hj => HJ.out j hj hj)
   subst hf0
   replace HEX := Hh (HEX.out.trans (if_neg (by simp)))
   have hlt' : ¬ (LE.length : Int) < LE.length := by omega
   clear HJ hlt hk FE FE'
   go_wp2_with fail
   obtain rfl : res = 0 := HEX.out
   rw [rounds_succ]
   go_wp2_with fail
   go_ret
   exact RetB.mk rfl HBr
structure Fold {α : Type} (f : WS → α → WS) (l : List α) (sb se : WS) (E : Nat) : Prop where
 len : ∀ k, ((l.take k).foldl f sb).1.length ≤ E
 few : ∀ k, fewO ((l.take k).foldl f sb).2 600000
 step : ∀ k (hk : k < l.length), (l.take (k + 1)).foldl f sb = f ((l.take k).foldl f sb) l[k]
 done : (l.take l.length).foldl f sb = se
theorem foldQ_of (l : List Qn) (sb : WS) (n E : Nat) (hf : fewO sb.2 n) (hE : (l.foldl putQ sb).1.length ≤ E) (hn : n + 254 * l.length ≤ 600000) : Fold putQ l sb (l.foldl putQ sb) E :=
 ⟨fun k => Nat.le_trans (foldQ_take l k sb) hE, fun k => (few_foldQ _ _ _ hf).mono (by simp only [List.length_take]; omega), fun k hk => foldl_take_succ _ _ _ hk _, by rw [List.take_length]⟩
theorem foldR_of (l : List RR) (sb : WS) (n E : Nat) (hf : fewO sb.2 n) (hE : (l.foldl putRec sb).1.length ≤ E) (hn : n + 762 * l.length ≤ 600000) : Fold putRec l sb (l.foldl putRec sb) E :=
 ⟨fun k => Nat.le_trans (foldR_take l k sb) hE, fun k => (few_foldR _ _ _ hf).mono (by simp only [List.length_take]; omega), fun k hk => foldl_take_succ _ _ _ hk _, by rw [List.take_length]⟩
structure Plan (m : Msg) (pack : Bool) (s1 s2 s3 s4 : WS) : Prop where
 q : Fold putQ m.qs (startM m pack) s1 s4.1.length
 a : Fold putRec m.an s1 s2 s4.1.length
 u : Fold putRec m.au s2 s3 s4.1.length
 e : Fold putRec m.ex s3 s4 s4.1.length
 eq : s4 = encS m pack
theorem plan_of (m : Msg) (pack : Bool) (hq : m.qs.length ≤ 700) (hr : m.rrs.length ≤ 400) : ∃ s1 s2 s3 s4, Plan m pack s1 s2 s3 s4 := by
 have hl : m.rrs.length = m.an.length + m.au.length + m.ex.length := by simp [Msg.rrs]; omega
 have f0 := few_start m pack
 have f1 := few_foldQ m.qs _ _ f0
 have f2 := few_foldR m.an _ _ f1
 have f3 := few_foldR m.au _ _ f2
 have e3 := foldR_len m.ex (m.au.foldl putRec (m.an.foldl putRec (m.qs.foldl putQ (startM m pack))))
 have e2 := foldR_len m.au (m.an.foldl putRec (m.qs.foldl putQ (startM m pack)))
 have e1 := foldR_len m.an (m.qs.foldl putQ (startM m pack))
 refine ⟨_, _, _, _, foldQ_of m.qs _ 0 _ f0 (by omega) (by omega), foldR_of m.an _ _ _ f1 (by omega) (by omega), foldR_of m.au _ _ _ f2 (by omega) (by omega), foldR_of m.ex _ _ _ f3 (Nat.le_refl _) (by omega), (encS_eq m pack).symm⟩
theorem putRes_ok {m : Msg} (h : MOk m) (pack : Bool) : putRes m.hd m.qs.length m.an.length m.au.length m.ex.length = ((startM m pack).1, 0) := by
 obtain ⟨h0, h1, h2, h3, h4, _, _⟩ := h
 unfold putRes
 rw [if_pos ⟨h0, by omega, by omega, by omega, by omega⟩]
 rfl
theorem mencode_bad (cs : List Value) (m : Msg) (pack : Bool) (Aq Aa Au Ae : Option Addr) (cq ca cu ce : Nat) (w : World) (h : MsgIs w cs m Aq Aa Au Ae cq ca cu ce) (hc : checkM m ≠ 0) :
  Calls prog 268 #[.agg cs.toArray, .bool pack] w (RetB (.tuple #[.string (bs []), .int .i64 (checkM m)]) w) := by
 have hl : cs.length = 14 := by rw [h.hcs]; exact msgC_len _ _ _ _ _
 have CK := Hh (fun w' (b : Below w.heap.size w w') => mcheck_any cs m Aq Aa Au Ae cq ca cu ce w' (h.below b))
 generalize checkM m = e at *
 have he : (e != 0) = true := by simpa using hc
 clear hc h
 have B0 := Blk.new w 280 cs
 have HB0 : Below w.heap.size w (w.alloc (.cells cs.toArray 280)) := (Below.refl _ _).alloc (Nat.le_refl _) _
 go_enter func268, ntmps268
 go_wp2_with (refine at_op (.load 280 (.tmp 2)) rfl ?_; go_must (refine wpList_ldB rfl _ _ rfl w.heap.size 0 rfl B0 14 (by omega) _ underlying280 rfl msgInfo cs (tk0 (by omega)) ?_))
 go_wp2_with fail
 refine (CK.out _ HB0).mono ?_
 rintro _ w1 ⟨rfl, b1⟩
 have HB1 := below_then HB0 HB0.size b1
 go_wp2_with fail
 go_ret2
 exact RetB.mk rfl HB1
theorem RRis.wf {w : World} {cs : List Value} {r : RR} (h : RRis w cs r) : r.wf := by obtain ⟨_, _, _, _, _, _, _, hr, _⟩ := h; exact hr
theorem putRec_max {st : WS} {r : RR} (hl : st.1.length ≤ 65535) (hw : r.wf) (hc : checkR r = 0) : (putRec st r).1.length ≤ 10000000 := by
 have h1 := dataR_len hw hc (recT st r) ((recS st r).length + 2)
 have h2 := putSO_len st.2 (st.1.length : Int) r.name
 change (recS st r ++ putB 2 (recD st r).length ++ recD st r).length ≤ _
 change (recD st r).length ≤ _ at h1
 simp only [recS, List.length_append, putB_length]
 omega
theorem putQ_max {st : WS} {q : Qn} (hl : st.1.length ≤ 65535) : (putQ st q).1.length ≤ 10000000 := by
 have h2 := putSO_len st.2 (st.1.length : Int) q.name
 simp only [putQ, List.length_append, putB_length]
 omega
set_option maxHeartbeats 8000000 in
theorem mencode_good (cs : List Value) (m : Msg) (pack : Bool) (Aq Aa Au Ae : Option Addr) (cq ca cu ce : Nat) (w : World) (h : MsgIs w cs m Aq Aa Au Ae cq ca cu ce) (hc : checkM m = 0) (hq : m.qs.length ≤ 700) (hr : m.rrs.length ≤ 400) :
  Calls prog 268 #[.agg cs.toArray, .bool pack] w (RetB (.tuple #[.string (bs (encM m pack).1), .int .i64 (encM m pack).2]) w) := by
 have MK := mOk_of hc
 obtain ⟨s1, s2, s3, s4, PL⟩ := plan_of m pack hq hr
 have hcs := h.hcs
 have hl : cs.length = 14 := by rw [hcs]; exact msgC_len _ _ _ _ _
 have L10 : cs[10]? = some (.slice Aq m.qs.length cq) := by rw [hcs]; rfl
 have L11 : cs[11]? = some (.slice Aa m.an.length ca) := by rw [hcs]; rfl
 have L12 : cs[12]? = some (.slice Au m.au.length cu) := by rw [hcs]; rfl
 have L13 : cs[13]? = some (.slice Ae m.ex.length ce) := by rw [hcs]; rfl
 have LH : (cs.drop 0).take 10 = m.hd.vals := by rw [hcs]; rfl
 have LI := Hh (fun w => lists_any m.hd (.slice Aq m.qs.length cq) Aa Au Ae m.an.length m.au.length m.ex.length ca cu ce w)
 rw [← hcs] at LI
 have CK := Hh (fun w' (b : Below w.heap.size w w') => mcheck_any cs m Aq Aa Au Ae cq ca cu ce w' (h.below b))
 rw [hc] at CK
 have HP : Hid (∀ w, Calls prog 295 #[.agg m.hd.vals.toArray, .agg #[.int .i64 (m.qs.length : Int), .int .i64 (m.an.length : Int), .int .i64 (m.au.length : Int), .int .i64 (m.ex.length : Int)]] w (RetB (.tuple #[.string (bs (startM m pack).1), .int .i64 0]) w)) := Hh (fun w => by
  have := headPut_any m.hd m.qs.length m.an.length m.au.length m.ex.length w
  rw [putRes_ok MK pack] at this
  exact this)
 have RL : Hid (65535 < s4.1.length → (encM m pack).1 = [] ∧ (encM m pack).2 = 3) := Hh (fun hl => by rw [encM_long pack hc (by rw [← PL.eq]; exact hl)]; exact ⟨rfl, rfl⟩)
 have RO : Hid (¬ 65535 < s4.1.length → (encM m pack).1 = s4.1 ∧ (encM m pack).2 = 0) := Hh (fun hl => by rw [encM_ok pack hc (by rw [← PL.eq]; exact hl), ← PL.eq]; exact ⟨rfl, rfl⟩)
 have hq' := h.hq
 have ha := h.ha
 have hu := h.hu
 have he := h.he
 have FQ := Hh PL.q
 have FA := Hh PL.a
 have FU := Hh PL.u
 have FE := Hh PL.e
 have QC : Hid (∀ k (hk : k < m.qs.length), checkN m.qs[k].name = 0) := Hh (fun k hk => MK.q _ (List.getElem_mem hk))
 have AC : Hid (∀ k (hk : k < m.an.length), checkR m.an[k] = 0) := Hh (fun k hk => MK.r _ (by unfold Msg.rrs; simp))
 have UC : Hid (∀ k (hk : k < m.au.length), checkR m.au[k] = 0) := Hh (fun k hk => MK.r _ (by unfold Msg.rrs; simp))
 have EC : Hid (∀ k (hk : k < m.ex.length), checkR m.ex[k] = 0) := Hh (fun k hk => MK.r _ (by unfold Msg.rrs; simp))
 have lq := MK.lq
 have la := MK.la
 have lu := MK.lu
 have le := MK.le
 have h12 := start_len m pack
 have hT0 : (startM m pack).2 = if pack then some [] else none := rfl
 clear h hcs hc MK PL hq hr
 generalize (encM m pack).1 = o1 at *
 generalize (encM m pack).2 = o2 at *
 generalize startM m pack = s0 at *
 generalize m.hd.vals = HV at *
 generalize m.qs = Q at *
 generalize m.an = LA at *
 generalize m.au = LU at *
 generalize m.ex = LE at *
 have B0 := Blk.new w 280 cs
 have HB0 : Below w.heap.size w (w.alloc (.cells cs.toArray 280)) := (Below.refl _ _).alloc (Nat.le_refl _) _
 go_enter func268, ntmps268
 go_wp2_with (refine at_op (.load 280 (.tmp 2)) rfl ?_; go_must (refine wpList_ldB rfl _ _ rfl w.heap.size 0 rfl B0 14 (by omega) _ underlying280 rfl msgInfo cs (tk0 (by omega)) ?_))
 go_wp2_with fail
 refine (CK.out _ HB0).mono ?_
 rintro _ w1 ⟨rfl, b1⟩
 have B1 := B0.below b1 B0.lt
 have HB1 := below_then HB0 HB0.size b1
 clear B0 HB0 b1 CK
 have c10 := B1.cell_ 10 L10
 have c11 := B1.cell_ 11 L11
 have c12 := B1.cell_ 12 L12
 have c13 := B1.cell_ 13 L13
 have B1' := B1.alloc (.cells #[.int .i64 (Q.length : Int), .int .i64 (LA.length : Int), .int .i64 (LU.length : Int), .int .i64 (LE.length : Int)] 399)
 go_wp2_with (refine at_op (.load 277 (.tmp 38)) rfl ?_; go_must (refine wpList_ldB rfl _ _ rfl w.heap.size 0 rfl B1' 10 (by omega) _ underlying277 rfl hdInfo HV LH ?_))
 refine (HP.out _).mono ?_
 rintro _ w2 ⟨rfl, b2⟩
 have B2 := B1'.below b2 B1'.lt
 have HB2 : Below w.heap.size w w2 := below_then (HB1.alloc HB1.size _) (by have := HB1.size; simp; omega) b2
 clear B1' b2 B1 HB1 c10 c11 c12 c13 HP LH
 obtain ⟨A, c, w3, hr3, o3, b3⟩ := run_toB w2 s0.1 (by simp only [maxLen]; omega)
 have HR3 := Hh hr3
 have H12 := Hh h12
 clear h12
 clear hr3
 have hsz3 := b3.size
 have W4 : WrAt w2.heap.size (w3.alloc (.cells #[.slice A s0.1.length c, .pointer none] 403)) w3.heap.size s0.1 none none := ⟨A, c, hsz3, Blk.new _ _ [.slice A s0.1.length c, .pointer none], o3.below ((Below.refl _ _).alloc (Nat.le_refl _) _), rfl⟩
 have K4 : KeepW w2.heap.size w2 (w3.alloc (.cells #[.slice A s0.1.length c, .pointer none] 403)) := KeepW.old (b3.alloc hsz3 _) (Nat.le_refl _)
 go_upto_if 50 with (refine at_op (.convert 9 131 (.tmp 47)) rfl ?_; go_must (refine wpList_cvt rfl 9 131 (.tmp 47) rfl _ rfl HR3.out ?_))
 go_cut [] (fun wx => ∃ p, WrAt w2.heap.size wx w3.heap.size s0.1 p s0.2 ∧ KeepW w2.heap.size w2 wx)
 case first =>
  cases pack with
  | false =>
   have hT1 : s0.2 = none := hT0
   go_wp2_with fail
   go_meet
   case rel => exact ⟨none, by rw [hT1]; exact W4, K4⟩
  | true =>
   have hT1 : s0.2 = some [] := hT0
   have HT1 := Hh hT1
   clear hT1 hT0
   go_wp2_with fail
   refine (pnew_any _).mono ?_
   rintro _ w5 ⟨g, b, rfl, hT, hB, hg, hbb⟩
   have Bw := (Blk.new w3 403 [.slice A s0.1.length c, .pointer none]).below hB (Blk.new w3 403 [.slice A s0.1.length c, .pointer none]).lt
   have Ow : OwnB w5 w2.heap.size (.slice A s0.1.length c) s0.1 := (o3.below ((Below.refl _ _).alloc (Nat.le_refl _) _)).below hB
   have hb3 : w2.heap.size ≤ (w3.alloc (.cells #[.slice A s0.1.length c, .pointer none] 403)).heap.size := by simp; omega
   have T5 : TabO w2.heap.size w5 (some ⟨g, 0, none⟩) (some []) := ⟨g, b, rfl, Nat.le_trans hb3 hg, Nat.le_trans hb3 hbb, hT⟩
   have K5 : KeepW w2.heap.size w2 w5 := K4.trans (KeepW.old hB hb3)
   clear W4 K4 hT hg hbb o3 hB
   go_wp2_with (refine at_op (.store 401 (.tmp 52) (.tmp 51)) rfl ?_; go_must (refine wpList_stC rfl 401 (.tmp 52) (.tmp 51) rfl w3.heap.size 1 rfl _ rfl Bw (by simp) (by kernel_rfl) rfl rfl ?_))
   intro w6 hb6 hg6 hs6
   have W6 : WrAt w2.heap.size w6 w3.heap.size s0.1 (some ⟨g, 0, none⟩) (some []) := ⟨A, c, hsz3, hb6, Ow.kept hg6 (.inr (fun he => Ow.ne Bw (by decide) he.symm)), T5.grown hg6 (by
    intro k hk
    obtain rfl := Option.some.inj hk
    exact ⟨_, _, _, Bw, by decide⟩)⟩
   have K6 : KeepW w2.heap.size w2 w6 := by
    refine K5.trans ⟨below_grown (Below.refl _ _) hg6 (K5.size (Nat.le_refl _)) hsz3, fun g' t cs' hb n1 n2 => hb.grown hg6 ?_⟩
    intro he
    obtain rfl := Option.some.inj he
    have hh : w5.heap[w3.heap.size]? = _ := hb
    have b1' : w5.heap[w3.heap.size]? = _ := Bw
    rw [hh] at b1'
    injection b1' with b1'
    injection b1' with _ b1'
    exact n1 b1'
   clear Bw Ow T5 K5 hb6 hg6 hs6
   go_wp2_with fail
   go_meet
   case rel => exact ⟨_, by rw [HT1.out]; exact W6, K6⟩
 case rest =>
  obtain ⟨p, W5, K5⟩ := hcut
  clear W4 K4 o3 HR3 hT0
  generalize w3.heap.size = gw at *
  have hsl : ((Q.take 0).foldl putQ s0).1.length ≤ 65535 := by have := H12.out; simp; omega
  have B5 := K5.2 _ _ _ B2 (by decide) (by decide)
  have c10 := B5.cell_ 10 L10
  clear b3 H12
  go_wp2_with fail
  go_loopw [56] (fun iv wr => ∃ k : Nat, k ≤ Q.length ∧ iv = .int .i64 k ∧ ((Q.take k).foldl putQ s0).1.length ≤ 65535 ∧ WrAt w2.heap.size wr gw ((Q.take k).foldl putQ s0).1 p ((Q.take k).foldl putQ s0).2 ∧ KeepW w2.heap.size w2 wr) (fun iv _ => Q.length - (intOf iv).toNat)
  case atStart => exact ⟨0, Nat.zero_le _, rfl, hsl, W5, K5⟩
  clear hsl W5 K5 c10 B5
  obtain ⟨k, hk, rfl, hsl, Wr, Kr⟩ := hrel
  by_cases hlt : k < Q.length
  case pos =>
   have hlt' : (k : Int) < Q.length := by omega
   obtain ⟨ba, oa, hA, hba, hel⟩ := hq' (by omega)
   subst hA
   obtain ⟨An, cn, hrg, hN⟩ := hel k hlt
   have HBr : Below w.heap.size w wr := HB2.trans (Kr.1.mono HB2.size)
   have hRk := range_below hrg HBr hba
   have hlo := Kr.size (Nat.le_refl _)
   have ST := Hh (FQ.out.step k hlt)
   have LN := Hh (FQ.out.len (k + 1))
   have FW := FQ.out.few k
   have RC := Hh (fun w' (hW : WrAt w2.heap.size w' gw ((Q.take k).foldl putQ s0).1 p ((Q.take k).foldl putQ s0).2) (hb : Below w.heap.size w w') (hlo : w2.heap.size ≤ w'.heap.size) => wquestion_any w2.heap.size gw ((Q.take k).foldl putQ s0) p An cn Q[k] w w' hW hN HB2.size hb hlo (by omega) (FW.mono (by omega)))
   rw [← ST.out, QC.out k hlt] at RC
   unfold qC at hRk RC
   clear hel hrg hN FW
   obtain ⟨sn, hsn⟩ : ∃ sn, sn = (Q.take (k + 1)).foldl putQ s0 := ⟨_, rfl⟩
   rw [← hsn] at RC ST LN
   have HSN := Hh hsn.symm
   have hmax : sn.1.length ≤ 10000000 := by rw [ST.out]; exact putQ_max hsl
   clear hsn
   generalize (Q.take k).foldl putQ s0 = st at *
   clear ST
   generalize (Q[k]'hlt).name.length = nl at *
   generalize (Q[k]'hlt).ty = ty at *
   generalize (Q[k]'hlt).cl = cl at *
   go_wp2_with (refine at_op (.load 218 (.tmp 58)) rfl ?_; go_must (refine wpList_ldR rfl 218 (.tmp 58) rfl ba (oa + k * 3) rfl [.slice An nl cn, .int .i64 ty, .int .i64 cl] hRk _ underlying218 rfl qInfo ?_))
   have bo : Below wr.heap.size wr (wr.alloc (.cells #[.slice An nl cn, .int .i64 ty, .int .i64 cl] 218)) := (Below.refl _ _).alloc (Nat.le_refl _) _
   refine (RC.out _ (Wr.below bo) (below_then HBr HBr.size bo) (Nat.le_trans hlo bo.size)).mono ?_
   rintro _ w5 ⟨rfl, W5, K5⟩
   have K5' := (Kr.trans (KeepW.old bo hlo)).trans K5
   clear RC K5 bo hlo Wr Kr HBr hRk
   have RM := Hh (room_any w2.heap.size gw sn.1 p sn.2 0 w5 W5 hmax)
   by_cases h5 : 65535 < sn.1.length
   ·
    obtain ⟨rfl, rfl⟩ := RL.out (Nat.lt_of_lt_of_le h5 LN.out)
    rw [if_pos ⟨rfl, h5⟩] at RM
    go_wp2_with fail
    refine RM.out.mono ?_
    rintro _ w6 ⟨rfl, rfl⟩
    clear RM h5 LN
    go_wp2_with fail
    go_ret2
    exact RetB.mk rfl (HB2.trans (K5'.1.mono HB2.size))
   ·
    rw [if_neg (fun h => h5 h.2)] at RM
    go_wp2_with fail
    refine RM.out.mono ?_
    rintro _ w6 ⟨rfl, rfl⟩
    clear RM LN
    go_wp2_with fail
    go_roundw
    case rel => exact ⟨k + 1, by omega, by go_num, by rw [HSN.out]; omega, by rw [HSN.out]; exact W5, K5'⟩
    case measure => simp [intOf]; omega
  obtain rfl : k = Q.length := by omega
  have hlt' : ¬ (Q.length : Int) < Q.length := by omega
  rw [FQ.out.done] at hsl Wr
  have Br := Kr.2 _ _ _ B2 (by decide) (by decide)
  clear hlt hk FQ hq' QC L10
  go_wp2_with (refine at_op (.load 280 (.tmp 2)) rfl ?_; go_must (refine wpList_ldB rfl _ _ rfl w.heap.size 0 rfl Br 14 (by omega) _ underlying280 rfl msgInfo cs (tk0 (by omega)) ?_))
  refine (LI.out _).mono ?_
  rintro _ wa ⟨rfl, ba⟩
  replace Wr := Wr.below ba
  replace Kr := Kr.trans (KeepW.old ba (Kr.size (Nat.le_refl _)))
  clear Br ba LI
  have I0 : ∀ w : World, (Instr.index 407 (.agg #[.slice Aa LA.length ca, .slice Au LU.length cu, .slice Ae LE.length ce]) (.int .i64 0)).run prog w = .ok (.slice Aa LA.length ca) w := fun _ => by kernel_rfl
  have I1 : ∀ w : World, (Instr.index 407 (.agg #[.slice Aa LA.length ca, .slice Au LU.length cu, .slice Ae LE.length ce]) (.int .i64 1)).run prog w = .ok (.slice Au LU.length cu) w := fun _ => by kernel_rfl
  have I2 : ∀ w : World, (Instr.index 407 (.agg #[.slice Aa LA.length ca, .slice Au LU.length cu, .slice Ae LE.length ce]) (.int .i64 2)).run prog w = .ok (.slice Ae LE.length ce) w := fun _ => by kernel_rfl
  go_wp2_with fail
  refine wp_loop_rounds 4 ?_
  rw [rounds_succ]
  go_wp2_with fail
  go_loopw [74] (fun iv wr => ∃ k : Nat, k ≤ LA.length ∧ iv = .int .i64 k ∧ ((LA.take k).foldl putRec s1).1.length ≤ 65535 ∧ WrAt w2.heap.size wr gw ((LA.take k).foldl putRec s1).1 p ((LA.take k).foldl putRec s1).2 ∧ KeepW w2.heap.size w2 wr) (fun iv _ => LA.length - (intOf iv).toNat)
  case atStart => exact ⟨0, Nat.zero_le _, rfl, hsl, Wr, Kr⟩
  clear hsl Wr Kr
  obtain ⟨k, hk, rfl, hsl, Wr, Kr⟩ := hrel
  by_cases hlt : k < LA.length
  case pos =>
   have hlt' : (k : Int) < LA.length := by omega
   obtain ⟨ba, oa, hA, hba, hel⟩ := ha (by omega)
   subst hA
   obtain ⟨ck, hrg, hRR⟩ := hel k hlt
   have HBr : Below w.heap.size w wr := HB2.trans (Kr.1.mono HB2.size)
   have hRk := range_below hrg HBr hba
   have ckl := hRR.len
   have hwf := hRR.wf
   have ck1 := Hh hRR.one
   have hlo := Kr.size (Nat.le_refl _)
   have ST := Hh ((FA).out.step k hlt)
   have LN := Hh ((FA).out.len (k + 1))
   have FW := (FA).out.few k
   have RC := Hh (fun w' (hW : WrAt w2.heap.size w' gw ((LA.take k).foldl putRec s1).1 p ((LA.take k).foldl putRec s1).2) (hb : Below w.heap.size w w') (hlo : w2.heap.size ≤ w'.heap.size) => wrecord_any w2.heap.size gw ((LA.take k).foldl putRec s1) p ck LA[k] w w' hW hRR HB2.size hb hlo (by omega) (FW.mono (by omega)) ((AC).out k hlt))
   rw [← ST.out] at RC
   clear hel hrg hRR FW
   obtain ⟨sn, hsn⟩ : ∃ sn, sn = (LA.take (k + 1)).foldl putRec s1 := ⟨_, rfl⟩
   rw [← hsn] at RC ST LN
   have HSN := Hh hsn.symm
   have hmax : sn.1.length ≤ 10000000 := by rw [ST.out]; exact putRec_max hsl hwf ((AC).out k hlt)
   clear hsn
   generalize (LA.take k).foldl putRec s1 = st at *
   go_wp2_with (first
    | (refine at_op (.load 96 (.tmp 76)) rfl ?_; go_must (refine wpList_ldR rfl 96 (.tmp 76) rfl ba (oa + k * 33) rfl ck hRk _ underlying96 rfl (by rw [ckl]; exact rrInfo) ?_))
    | (refine at_op (.store 96 (.tmp 17) (.tmp 77)) rfl ?_; go_must (refine wpList_stB rfl _ _ _ rfl wr.heap.size 0 rfl ck rfl (Blk.new' _ _ rrZ _ (by simp)) (by rw [rrZ_len]; omega) (by rw [ckl]; exact rrInfo) ck1.out ?_)))
   intro w4 hb4 hg4 hs4
   rw [List.drop_of_length_le (by rw [rrZ_len]; omega), List.append_nil] at hb4
   have bo : Below wr.heap.size wr w4 := below_grown ((Below.refl _ _).alloc (Nat.le_refl _) _) hg4 (by simp) (Nat.le_refl _)
   have W4 := Wr.below bo
   have K4 := Kr.trans (KeepW.old bo hlo)
   have HB4 := below_then HBr HBr.size bo
   have hlo4 := Nat.le_trans hlo bo.size
   clear hg4 hs4 hRk HBr bo Wr Kr hlo
   go_wp2_with (refine at_op (.load 96 (.tmp 17)) rfl ?_; go_must (refine wpList_ldB rfl _ _ rfl wr.heap.size 0 rfl hb4 33 (by omega) _ underlying96 rfl rrInfo ck (tk0 (by omega)) ?_))
   refine (RC.out _ W4 HB4 hlo4).mono ?_
   rintro _ w5 ⟨rfl, W5, K5⟩
   have K5' := K4.trans K5
   clear RC hb4 W4 K4 HB4 hlo4 K5
   have RM := Hh (fun hl => room_any w2.heap.size gw sn.1 p sn.2 0 w5 W5 hl)
   by_cases h5 : 65535 < sn.1.length
   ·
    obtain ⟨rfl, rfl⟩ := RL.out (Nat.lt_of_lt_of_le h5 LN.out)
    have RM' := Hh (RM.out hmax)
    rw [if_pos ⟨rfl, h5⟩] at RM'
    clear RM hmax
    go_wp2_with fail
    refine RM'.out.mono ?_
    rintro _ w6 ⟨rfl, rfl⟩
    clear RM' h5 LN ST
    go_wp2_with fail
    go_ret2
    exact RetB.mk rfl (HB2.trans (K5'.1.mono HB2.size))
   ·
    have RM' := Hh (RM.out (by omega))
    rw [if_neg (fun h => h5 h.2)] at RM'
    clear RM
    go_wp2_with fail
    refine RM'.out.mono ?_
    rintro _ w6 ⟨rfl, rfl⟩
    clear RM' LN
    go_wp2_with fail
    go_roundw
    case rel => exact ⟨k + 1, by omega, by go_num, by rw [HSN.out]; omega, by rw [HSN.out]; exact W5, K5'⟩
    case measure => simp [intOf]; omega
  obtain rfl : k = LA.length := by omega
  have hlt' : ¬ (LA.length : Int) < LA.length := by omega
  rw [(FA).out.done] at hsl Wr
  clear hlt hk FA ha AC
  go_wp2_with fail
  rw [rounds_succ]
  go_wp2_with fail
  go_loopw [74] (fun iv wr => ∃ k : Nat, k ≤ LU.length ∧ iv = .int .i64 k ∧ ((LU.take k).foldl putRec s2).1.length ≤ 65535 ∧ WrAt w2.heap.size wr gw ((LU.take k).foldl putRec s2).1 p ((LU.take k).foldl putRec s2).2 ∧ KeepW w2.heap.size w2 wr) (fun iv _ => LU.length - (intOf iv).toNat)
  case atStart => exact ⟨0, Nat.zero_le _, rfl, hsl, Wr, Kr⟩
  clear hsl Wr Kr
  obtain ⟨k, hk, rfl, hsl, Wr, Kr⟩ := hrel
  by_cases hlt : k < LU.length
  case pos =>
   have hlt' : (k : Int) < LU.length := by omega
   obtain ⟨ba, oa, hA, hba, hel⟩ := hu (by omega)
   subst hA
   obtain ⟨ck, hrg, hRR⟩ := hel k hlt
   have HBr : Below w.heap.size w wr := HB2.trans (Kr.1.mono HB2.size)
   have hRk := range_below hrg HBr hba
   have ckl := hRR.len
   have hwf := hRR.wf
   have ck1 := Hh hRR.one
   have hlo := Kr.size (Nat.le_refl _)
   have ST := Hh ((FU).out.step k hlt)
   have LN := Hh ((FU).out.len (k + 1))
   have FW := (FU).out.few k
   have RC := Hh (fun w' (hW : WrAt w2.heap.size w' gw ((LU.take k).foldl putRec s2).1 p ((LU.take k).foldl putRec s2).2) (hb : Below w.heap.size w w') (hlo : w2.heap.size ≤ w'.heap.size) => wrecord_any w2.heap.size gw ((LU.take k).foldl putRec s2) p ck LU[k] w w' hW hRR HB2.size hb hlo (by omega) (FW.mono (by omega)) ((UC).out k hlt))
   rw [← ST.out] at RC
   clear hel hrg hRR FW
   obtain ⟨sn, hsn⟩ : ∃ sn, sn = (LU.take (k + 1)).foldl putRec s2 := ⟨_, rfl⟩
   rw [← hsn] at RC ST LN
   have HSN := Hh hsn.symm
   have hmax : sn.1.length ≤ 10000000 := by rw [ST.out]; exact putRec_max hsl hwf ((UC).out k hlt)
   clear hsn
   generalize (LU.take k).foldl putRec s2 = st at *
   go_wp2_with (first
    | (refine at_op (.load 96 (.tmp 76)) rfl ?_; go_must (refine wpList_ldR rfl 96 (.tmp 76) rfl ba (oa + k * 33) rfl ck hRk _ underlying96 rfl (by rw [ckl]; exact rrInfo) ?_))
    | (refine at_op (.store 96 (.tmp 17) (.tmp 77)) rfl ?_; go_must (refine wpList_stB rfl _ _ _ rfl wr.heap.size 0 rfl ck rfl (Blk.new' _ _ rrZ _ (by simp)) (by rw [rrZ_len]; omega) (by rw [ckl]; exact rrInfo) ck1.out ?_)))
   intro w4 hb4 hg4 hs4
   rw [List.drop_of_length_le (by rw [rrZ_len]; omega), List.append_nil] at hb4
   have bo : Below wr.heap.size wr w4 := below_grown ((Below.refl _ _).alloc (Nat.le_refl _) _) hg4 (by simp) (Nat.le_refl _)
   have W4 := Wr.below bo
   have K4 := Kr.trans (KeepW.old bo hlo)
   have HB4 := below_then HBr HBr.size bo
   have hlo4 := Nat.le_trans hlo bo.size
   clear hg4 hs4 hRk HBr bo Wr Kr hlo
   go_wp2_with (refine at_op (.load 96 (.tmp 17)) rfl ?_; go_must (refine wpList_ldB rfl _ _ rfl wr.heap.size 0 rfl hb4 33 (by omega) _ underlying96 rfl rrInfo ck (tk0 (by omega)) ?_))
   refine (RC.out _ W4 HB4 hlo4).mono ?_
   rintro _ w5 ⟨rfl, W5, K5⟩
   have K5' := K4.trans K5
   clear RC hb4 W4 K4 HB4 hlo4 K5
   have RM := Hh (fun hl => room_any w2.heap.size gw sn.1 p sn.2 0 w5 W5 hl)
   by_cases h5 : 65535 < sn.1.length
   ·
    obtain ⟨rfl, rfl⟩ := RL.out (Nat.lt_of_lt_of_le h5 LN.out)
    have RM' := Hh (RM.out hmax)
    rw [if_pos ⟨rfl, h5⟩] at RM'
    clear RM hmax
    go_wp2_with fail
    refine RM'.out.mono ?_
    rintro _ w6 ⟨rfl, rfl⟩
    clear RM' h5 LN ST
    go_wp2_with fail
    go_ret2
    exact RetB.mk rfl (HB2.trans (K5'.1.mono HB2.size))
   ·
    have RM' := Hh (RM.out (by omega))
    rw [if_neg (fun h => h5 h.2)] at RM'
    clear RM
    go_wp2_with fail
    refine RM'.out.mono ?_
    rintro _ w6 ⟨rfl, rfl⟩
    clear RM' LN
    go_wp2_with fail
    go_roundw
    case rel => exact ⟨k + 1, by omega, by go_num, by rw [HSN.out]; omega, by rw [HSN.out]; exact W5, K5'⟩
    case measure => simp [intOf]; omega
  obtain rfl : k = LU.length := by omega
  have hlt' : ¬ (LU.length : Int) < LU.length := by omega
  rw [(FU).out.done] at hsl Wr
  clear hlt hk FU hu UC
  go_wp2_with fail
  rw [rounds_succ]
  go_wp2_with fail
  go_loopw [74] (fun iv wr => ∃ k : Nat, k ≤ LE.length ∧ iv = .int .i64 k ∧ ((LE.take k).foldl putRec s3).1.length ≤ 65535 ∧ WrAt w2.heap.size wr gw ((LE.take k).foldl putRec s3).1 p ((LE.take k).foldl putRec s3).2 ∧ KeepW w2.heap.size w2 wr) (fun iv _ => LE.length - (intOf iv).toNat)
  case atStart => exact ⟨0, Nat.zero_le _, rfl, hsl, Wr, Kr⟩
  clear hsl Wr Kr
  obtain ⟨k, hk, rfl, hsl, Wr, Kr⟩ := hrel
  by_cases hlt : k < LE.length
  case pos =>
   have hlt' : (k : Int) < LE.length := by omega
   obtain ⟨ba, oa, hA, hba, hel⟩ := he (by omega)
   subst hA
   obtain ⟨ck, hrg, hRR⟩ := hel k hlt
   have HBr : Below w.heap.size w wr := HB2.trans (Kr.1.mono HB2.size)
   have hRk := range_below hrg HBr hba
   have ckl := hRR.len
   have hwf := hRR.wf
   have ck1 := Hh hRR.one
   have hlo := Kr.size (Nat.le_refl _)
   have ST := Hh ((FE).out.step k hlt)
   have LN := Hh ((FE).out.len (k + 1))
   have FW := (FE).out.few k
   have RC := Hh (fun w' (hW : WrAt w2.heap.size w' gw ((LE.take k).foldl putRec s3).1 p ((LE.take k).foldl putRec s3).2) (hb : Below w.heap.size w w') (hlo : w2.heap.size ≤ w'.heap.size) => wrecord_any w2.heap.size gw ((LE.take k).foldl putRec s3) p ck LE[k] w w' hW hRR HB2.size hb hlo (by omega) (FW.mono (by omega)) ((EC).out k hlt))
   rw [← ST.out] at RC
   clear hel hrg hRR FW
   obtain ⟨sn, hsn⟩ : ∃ sn, sn = (LE.take (k + 1)).foldl putRec s3 := ⟨_, rfl⟩
   rw [← hsn] at RC ST LN
   have HSN := Hh hsn.symm
   have hmax : sn.1.length ≤ 10000000 := by rw [ST.out]; exact putRec_max hsl hwf ((EC).out k hlt)
   clear hsn
   generalize (LE.take k).foldl putRec s3 = st at *
   go_wp2_with (first
    | (refine at_op (.load 96 (.tmp 76)) rfl ?_; go_must (refine wpList_ldR rfl 96 (.tmp 76) rfl ba (oa + k * 33) rfl ck hRk _ underlying96 rfl (by rw [ckl]; exact rrInfo) ?_))
    | (refine at_op (.store 96 (.tmp 17) (.tmp 77)) rfl ?_; go_must (refine wpList_stB rfl _ _ _ rfl wr.heap.size 0 rfl ck rfl (Blk.new' _ _ rrZ _ (by simp)) (by rw [rrZ_len]; omega) (by rw [ckl]; exact rrInfo) ck1.out ?_)))
   intro w4 hb4 hg4 hs4
   rw [List.drop_of_length_le (by rw [rrZ_len]; omega), List.append_nil] at hb4
   have bo : Below wr.heap.size wr w4 := below_grown ((Below.refl _ _).alloc (Nat.le_refl _) _) hg4 (by simp) (Nat.le_refl _)
   have W4 := Wr.below bo
   have K4 := Kr.trans (KeepW.old bo hlo)
   have HB4 := below_then HBr HBr.size bo
   have hlo4 := Nat.le_trans hlo bo.size
   clear hg4 hs4 hRk HBr bo Wr Kr hlo
   go_wp2_with (refine at_op (.load 96 (.tmp 17)) rfl ?_; go_must (refine wpList_ldB rfl _ _ rfl wr.heap.size 0 rfl hb4 33 (by omega) _ underlying96 rfl rrInfo ck (tk0 (by omega)) ?_))
   refine (RC.out _ W4 HB4 hlo4).mono ?_
   rintro _ w5 ⟨rfl, W5, K5⟩
   have K5' := K4.trans K5
   clear RC hb4 W4 K4 HB4 hlo4 K5
   have RM := Hh (fun hl => room_any w2.heap.size gw sn.1 p sn.2 0 w5 W5 hl)
   by_cases h5 : 65535 < sn.1.length
   ·
    obtain ⟨rfl, rfl⟩ := RL.out (Nat.lt_of_lt_of_le h5 LN.out)
    have RM' := Hh (RM.out hmax)
    rw [if_pos ⟨rfl, h5⟩] at RM'
    clear RM hmax
    go_wp2_with fail
    refine RM'.out.mono ?_
    rintro _ w6 ⟨rfl, rfl⟩
    clear RM' h5 LN ST
    go_wp2_with fail
    go_ret2
    exact RetB.mk rfl (HB2.trans (K5'.1.mono HB2.size))
   ·
    have RM' := Hh (RM.out (by omega))
    rw [if_neg (fun h => h5 h.2)] at RM'
    clear RM
    go_wp2_with fail
    refine RM'.out.mono ?_
    rintro _ w6 ⟨rfl, rfl⟩
    clear RM' LN
    go_wp2_with fail
    go_roundw
    case rel => exact ⟨k + 1, by omega, by go_num, by rw [HSN.out]; omega, by rw [HSN.out]; exact W5, K5'⟩
    case measure => simp [intOf]; omega
  obtain rfl : k = LE.length := by omega
  have hlt' : ¬ (LE.length : Int) < LE.length := by omega
  rw [(FE).out.done] at hsl Wr
  clear hlt hk FE he EC
  go_wp2_with fail
  rw [rounds_succ]
  obtain ⟨rfl, rfl⟩ := RO.out (by omega)
  clear RO RL I0 I1 I2
  obtain ⟨A', c', h1, h2, h3, h4⟩ := Wr
  have c0 := h2.cell_ 0 rfl
  have CV := h3.str
  go_wp2_with fail
  go_ret2
  exact RetB.mk rfl (HB2.trans (Kr.1.mono HB2.size))
theorem mencode_any (cs : List Value) (m : Msg) (pack : Bool) (Aq Aa Au Ae : Option Addr) (cq ca cu ce : Nat) (w : World) (h : MsgIs w cs m Aq Aa Au Ae cq ca cu ce) (hq : m.qs.length ≤ 700) (hr : m.rrs.length ≤ 400) :
  Calls prog 268 #[.agg cs.toArray, .bool pack] w (RetB (.tuple #[.string (bs (encM m pack).1), .int .i64 (encM m pack).2]) w) := by
 by_cases hc : checkM m = 0
 ·
  exact mencode_good cs m pack Aq Aa Au Ae cq ca cu ce w h hc hq hr
 ·
  rw [encM_bad pack hc]
  exact mencode_bad cs m pack Aq Aa Au Ae cq ca cu ce w h hc
end Go.Proofs.YteimenplbanooaaGreatDoor
