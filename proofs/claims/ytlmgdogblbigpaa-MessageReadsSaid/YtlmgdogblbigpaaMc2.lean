/-
  Layer 14 (message): Check.
-/
import Derived.Test.YtlmgdogblbigpaaGQ
namespace Go.Proofs.Ytlmgdogblbigpaa
open Go.RowKit
set_option maxRecDepth 100000
set_option linter.unusedVariables false
set_option linter.unusedSimpArgs false

set_option maxHeartbeats 4000000 in
theorem mcheck_any (cs : List Value) (m : Msg) (Aq Aa Au Ae : Option Addr) (cq ca cu ce : Nat) (w : World) (h : MsgIs w cs m Aq Aa Au Ae cq ca cu ce) :
    Calls Try.prog 31 #[.agg cs.toArray] w (RetB (.int .i64 (checkM m)) w) := by
  have hcs := h.hcs
  have hl : cs.length = 14 := by rw [hcs]; exact msgC_len _ _ _ _ _
  have L10 : cs[10]? = some (.slice Aq m.qs.length cq) := by rw [hcs]; rfl
  have LH : (cs.drop 0).take 10 = m.hd.vals := by rw [hcs]; rfl
  have LI := Lib.hid (fun w => lists_any m.hd (.slice Aq m.qs.length cq) Aa Au Ae m.an.length m.au.length m.ex.length ca cu ce w)
  rw [← hcs] at LI
  have CH : Hid (∀ w, Calls Try.prog 75 #[.agg m.hd.vals.toArray] w (RetB (.int .i64 (if m.hd.ok then 0 else 4)) w)) := Lib.hid (fun w => check_any m.hd w)
  have lq := h.lq
  have la := h.la
  have lu := h.lu
  have le := h.le
  have hq := h.hq
  have ha := h.ha
  have hu := h.hu
  have he := h.he
  have HE := Lib.hid (checkM_eq m)
  have FQ := Lib.hid (fstM_ok qE m.qs)
  have FQ' := Lib.hid (fstM_bad qE m.qs)
  have FA := Lib.hid (fstM_ok checkR m.an)
  have FA' := Lib.hid (fstM_bad checkR m.an)
  have FU := Lib.hid (fstM_ok checkR m.au)
  have FU' := Lib.hid (fstM_bad checkR m.au)
  have FE := Lib.hid (fstM_ok checkR m.ex)
  have FE' := Lib.hid (fstM_bad checkR m.ex)
  clear h hcs
  generalize checkM m = res at *
  generalize fstE (m.qs.map qE) = fq at *
  generalize fstE (m.an.map checkR) = fa at *
  generalize fstE (m.au.map checkR) = fu at *
  generalize fstE (m.ex.map checkR) = fe at *
  generalize m.hd.vals = HV at *
  generalize m.hd.ok = ok at *
  generalize m.qs = Q at *
  generalize m.an = LA at *
  generalize m.au = LU at *
  generalize m.ex = LE at *
  have B0 := Blk.new w 52 cs
  have HB0 : Below w.heap.size w (w.alloc (.cells cs.toArray 52)) := (Below.refl _ _).alloc (Nat.le_refl _) _
  go_enter Try.func31, Try.ntmps31
  go_wp2_with (refine at_op (.load 48 (.tmp 14)) rfl ?_; go_must (refine wpList_ldB rfl 48 (.tmp 14) rfl w.heap.size 0 rfl B0 10 (by omega) _ Try.underlying48 rfl hdInfo HV LH ?_))
  go_wp2_with fail
  refine (CH.out _).mono ?_
  rintro _ w1 ⟨rfl, b1⟩
  have B1 := B0.below b1 B0.lt
  have HB1 := below_then HB0 HB0.size b1
  clear B0 HB0 b1 CH
  cases ok with
  | false =>
    have hr0 := HE.out.trans (if_pos rfl)
    subst hr0
    clear HE
    go_wp2_with fail
    go_ret
    exact RetB.mk rfl HB1
  | true =>
  have HE1 := Lib.hid (HE.out.trans (if_neg (by simp)))
  clear HE
  have c10 := B1.cell_ 10 L10
  by_cases h1 : 65535 < Q.length
  case pos =>
    have h1' : (65535 : Int) < Q.length := by omega
    have hr0 := HE1.out.trans (if_pos (.inl h1))
    subst hr0
    clear HE1 h1
    go_wp2_with fail
    go_ret
    exact RetB.mk rfl HB1
  have h1' : ¬ (65535 : Int) < Q.length := by omega
  go_wp2_with (refine at_op (.load 52 (.tmp 1)) rfl ?_; go_must (refine wpList_ldB rfl 52 (.tmp 1) rfl w.heap.size 0 rfl B1 14 (by omega) _ Try.underlying52 rfl msgInfo cs (by rw [List.drop_zero, List.take_of_length_le (by omega)]) ?_))
  go_wp2_with fail
  refine (LI.out _).mono ?_
  rintro _ w2 ⟨rfl, b2⟩
  have B2 := B1.below b2 B1.lt
  have HB2 := below_then HB1 HB1.size b2
  clear B1 HB1 b2 c10
  have I0 : ∀ w : World, (Instr.index 123 (.agg #[.slice Aa LA.length ca, .slice Au LU.length cu, .slice Ae LE.length ce]) (.int .i64 0)).run Try.prog w = .ok (.slice Aa LA.length ca) w := fun _ => by kernel_rfl
  have I1 : ∀ w : World, (Instr.index 123 (.agg #[.slice Aa LA.length ca, .slice Au LU.length cu, .slice Ae LE.length ce]) (.int .i64 1)).run Try.prog w = .ok (.slice Au LU.length cu) w := fun _ => by kernel_rfl
  have I2 : ∀ w : World, (Instr.index 123 (.agg #[.slice Aa LA.length ca, .slice Au LU.length cu, .slice Ae LE.length ce]) (.int .i64 2)).run Try.prog w = .ok (.slice Ae LE.length ce) w := fun _ => by kernel_rfl
  go_wp2_with fail
  refine wp_loop_rounds 4 ?_
  rw [rounds_succ]
  by_cases h2 : 65535 < LA.length
  case pos =>
    have h2' : (65535 : Int) < LA.length := by omega
    have hr0 := HE1.out.trans (if_pos (.inr (.inl h2)))
    subst hr0
    clear HE1 h2 h1
    go_wp2_with fail
    go_ret
    exact RetB.mk rfl HB2
  have h2' : ¬ (65535 : Int) < LA.length := by omega
  go_wp2_with fail
  rw [rounds_succ]
  by_cases h3 : 65535 < LU.length
  case pos =>
    have h3' : (65535 : Int) < LU.length := by omega
    have hr0 := HE1.out.trans (if_pos (.inr (.inr (.inl h3))))
    subst hr0
    clear HE1 h3 h2 h1
    go_wp2_with fail
    go_ret
    exact RetB.mk rfl HB2
  have h3' : ¬ (65535 : Int) < LU.length := by omega
  go_wp2_with fail
  rw [rounds_succ]
  by_cases h4 : 65535 < LE.length
  case pos =>
    have h4' : (65535 : Int) < LE.length := by omega
    have hr0 := HE1.out.trans (if_pos (.inr (.inr (.inr h4))))
    subst hr0
    clear HE1 h4 h3 h2 h1
    go_wp2_with fail
    go_ret
    exact RetB.mk rfl HB2
  have h4' : ¬ (65535 : Int) < LE.length := by omega
  have HE2 := Lib.hid (HE1.out.trans (if_neg (by omega)))
  clear HE1
  go_wp2_with fail
  rw [rounds_succ]
  have c10 := B2.cell_ 10 L10
  go_wp2_with fail
  clear I0 I1 I2 h1 h2 h3 h4
  go_loopw [36] (fun iv wr => ∃ k : Nat, k ≤ Q.length ∧ iv = .int .i64 k ∧ Hid (∀ j (hj : j < Q.length), j < k → qE Q[j] = 0) ∧ Below w2.heap.size w2 wr) (fun iv _ => Q.length - (intOf iv).toNat)
  case atStart => exact ⟨0, Nat.zero_le _, rfl, Lib.hid (fun j hj h => by omega), Below.refl _ _⟩
  case round =>
    obtain ⟨k, hk, rfl, HJ, hb⟩ := hrel
    have HBr := below_then HB2 (below_size_le HB2 (Nat.le_refl _)) hb
    by_cases hlt : k < Q.length
    · have hlt' : (k : Int) < Q.length := by omega
      obtain ⟨ba, oa, hA, hba, hel⟩ := hq (by omega)
      subst hA
      obtain ⟨An, cn, hrg, hN⟩ := hel k hlt
      have hRk := range_below hrg HBr hba
      unfold qC at hRk
      have CK := Lib.hid (fun w' (b : Below w.heap.size w w') => dcheck_any An cn Q[k].name w' (hN.below b).1 (by have := hN.2.2.1; omega))
      have W1 := Lib.hid (fun w => mwithin_any Q[k].ty w)
      have W2 := Lib.hid (fun w => mwithin_any Q[k].cl w)
      have FK := Lib.hid (FQ'.out k hlt HJ.out)
      have HJ2 := Lib.hid (fun (hz : qE Q[k] = 0) j (hj : j < Q.length) (hjk : j < k + 1) => (by by_cases e : j = k; (subst e; exact hz); exact HJ.out j hj (by omega) : qE Q[j] = 0))
      have HQ : Hid (qE Q[k] = _) := Lib.hid (by unfold qE; rfl)
      clear hel hrg hN HJ
      generalize qE (Q[k]'hlt) = qe at *
      generalize checkN (Q[k]'hlt).name = e0 at *
      generalize (Q[k]'hlt).name.length = nl at *
      generalize inB 65535 (Q[k]'hlt).ty = i1 at *
      generalize inB 65535 (Q[k]'hlt).cl = i2 at *
      generalize (Q[k]'hlt).ty = ty at *
      generalize (Q[k]'hlt).cl = cl at *
      go_wp2_with (refine at_op (.load 61 (.tmp 38)) rfl ?_; go_must (refine wpList_ldR rfl 61 (.tmp 38) rfl ba (oa + k * 3) rfl [.slice An nl cn, .int .i64 ty, .int .i64 cl] hRk _ Try.underlying61 rfl qInfo ?_))
      have HBn := HBr.alloc HBr.size (.cells #[.slice An nl cn, .int .i64 ty, .int .i64 cl] 61)
      have hbn := hb.alloc hb.size (.cells #[.slice An nl cn, .int .i64 ty, .int .i64 cl] 61)
      refine (CK.out _ HBn).mono ?_
      rintro _ w4 ⟨rfl, rfl⟩
      clear CK hRk HBr hb
      by_cases he0 : e0 = 0
      case neg =>
        have e1 : (e0 != 0) = true := by simpa using he0
        have e2 := HQ.out.trans (if_pos he0)
        subst e2
        have e3 := FK.out he0
        subst e3
        have hr0 := HE2.out.trans (if_pos he0)
        subst hr0
        clear HE2 FK HJ2 HQ he0
        go_wp2_with fail
        go_ret
        exact RetB.mk rfl HBn
      subst he0
      replace HQ := Lib.hid (HQ.out.trans (if_neg (by simp)))
      go_wp2_with fail
      refine (W1.out _).mono ?_
      rintro _ w4 ⟨rfl, rfl⟩
      clear W1
      cases i1 with
      | false =>
        have e2 : qe = 4 := HQ.out
        subst e2
        have e3 := FK.out (by decide)
        subst e3
        have hr0 := HE2.out.trans (if_pos (by decide))
        subst hr0
        clear HE2 FK HJ2 HQ
        go_wp2_with fail
        go_ret
        exact RetB.mk rfl HBn
      | true =>
      go_wp2_with fail
      refine (W2.out _).mono ?_
      rintro _ w4 ⟨rfl, rfl⟩
      clear W2
      cases i2 with
      | false =>
        have e2 : qe = 4 := HQ.out
        subst e2
        have e3 := FK.out (by decide)
        subst e3
        have hr0 := HE2.out.trans (if_pos (by decide))
        subst hr0
        clear HE2 FK HJ2 HQ
        go_wp2_with fail
        go_ret
        exact RetB.mk rfl HBn
      | true =>
        have e2 : qe = 0 := HQ.out
        subst e2
        clear HQ
        go_wp2_with fail
        go_roundw
        case rel => exact ⟨k + 1, by omega, by go_num, Lib.hid (HJ2.out trivial), hbn⟩
        case measure => simp [intOf]; omega
    · obtain rfl : k = Q.length := by omega
      have hf0 := FQ.out (fun j hj => HJ.out j hj hj)
      subst hf0
      have HEX := Lib.hid (HE2.out.trans (if_neg (by simp)))
      have hlt' : ¬ (Q.length : Int) < Q.length := by omega
      have B3 := B2.below hb B2.lt
      have HB3 := HBr
      clear HJ hlt FQ FQ' HE2 HBr hb B2 HB2 c10 hq
      go_wp2_with (refine at_op (.load 52 (.tmp 1)) rfl ?_; go_must (refine wpList_ldB rfl 52 (.tmp 1) rfl w.heap.size 0 rfl B3 14 (by omega) _ Try.underlying52 rfl msgInfo cs (by rw [List.drop_zero, List.take_of_length_le (by omega)]) ?_))
      refine (LI.out _).mono ?_
      rintro _ wa ⟨rfl, ba⟩
      have HBa := below_then HB3 HB3.size ba
      clear B3 HB3 ba LI
      have I0 : ∀ w : World, (Instr.index 123 (.agg #[.slice Aa LA.length ca, .slice Au LU.length cu, .slice Ae LE.length ce]) (.int .i64 0)).run Try.prog w = .ok (.slice Aa LA.length ca) w := fun _ => by kernel_rfl
      have I1 : ∀ w : World, (Instr.index 123 (.agg #[.slice Aa LA.length ca, .slice Au LU.length cu, .slice Ae LE.length ce]) (.int .i64 1)).run Try.prog w = .ok (.slice Au LU.length cu) w := fun _ => by kernel_rfl
      have I2 : ∀ w : World, (Instr.index 123 (.agg #[.slice Aa LA.length ca, .slice Au LU.length cu, .slice Ae LE.length ce]) (.int .i64 2)).run Try.prog w = .ok (.slice Ae LE.length ce) w := fun _ => by kernel_rfl
      go_wp2_with fail
      refine wp_loop_rounds 4 ?_
      have HBr := HBa
      clear HBa
      rw [rounds_succ]
      go_wp2_with fail
      go_loopw [64] (fun iv wr => ∃ k : Nat, k ≤ LA.length ∧ iv = .int .i64 k ∧ Hid (∀ j (hj : j < LA.length), j < k → checkR LA[j] = 0) ∧ Below w.heap.size w wr) (fun iv _ => LA.length - (intOf iv).toNat)
      case atStart => exact ⟨0, Nat.zero_le _, rfl, Lib.hid (fun j hj h => by omega), HBr⟩
      clear HBr
      obtain ⟨k, hk, rfl, HJ, HBr⟩ := hrel
      by_cases hlt : k < LA.length
      case pos =>
        have hlt' : (k : Int) < LA.length := by omega
        obtain ⟨ba, oa, hA, hba, hel⟩ := ha (by omega)
        subst hA
        obtain ⟨ck, hrg, hRR⟩ := hel k hlt
        have hRk := range_below hrg HBr hba
        have ckl := hRR.len
        have ck1 := Lib.hid hRR.one
        have CK := Lib.hid (fun w' (b : Below w.heap.size w w') => rcheck_any ck LA[k] w' (hRR.below b))
        have FK := Lib.hid ((FA').out k hlt HJ.out)
        have HJ2 := Lib.hid (fun (hz : checkR LA[k] = 0) j (hj : j < LA.length) (hjk : j < k + 1) => (by by_cases e : j = k; (subst e; exact hz); exact HJ.out j hj (by omega) : checkR LA[j] = 0))
        clear hel hrg hRR HJ
        generalize checkR (LA[k]'hlt) = ek at *
        go_wp2_with (first
          | (refine at_op (.load 86 (.tmp 66)) rfl ?_; go_must (refine wpList_ldR rfl 86 (.tmp 66) rfl ba (oa + k * 33) rfl ck hRk _ Try.underlying86 rfl (by rw [ckl]; exact rrInfo) ?_))
          | (refine at_op (.store 86 (.tmp 12) (.tmp 67)) rfl ?_; go_must (refine wpList_stB rfl 86 (.tmp 12) (.tmp 67) rfl wr.heap.size 0 rfl ck rfl (Blk.new' _ _ rrZ _ (by simp)) (by rw [rrZ_len]; omega) (by rw [ckl]; exact rrInfo) ck1.out ?_)))
        intro w3 hb3 hg3 hs3
        rw [List.drop_of_length_le (by rw [rrZ_len]; omega), List.append_nil] at hb3
        have HB3 : Below w.heap.size w w3 := below_grown (HBr.alloc HBr.size _) hg3 (by have := HBr.size; simp; omega) HBr.size
        clear hg3 hs3 hRk HBr
        go_wp2_with (refine at_op (.load 86 (.tmp 12)) rfl ?_; go_must (refine wpList_ldB rfl 86 (.tmp 12) rfl wr.heap.size 0 rfl hb3 33 (by omega) _ Try.underlying86 rfl rrInfo ck (by rw [List.drop_zero, List.take_of_length_le (by omega)]) ?_))
        refine (CK.out _ HB3).mono ?_
        rintro _ w4 ⟨rfl, b4⟩
        have HB4 := below_then HB3 HB3.size b4
        clear CK hb3 b4 HB3
        by_cases he0 : ek = 0
        · subst he0
          go_wp2_with fail
          go_roundw
          case rel => exact ⟨k + 1, by omega, by go_num, Lib.hid (HJ2.out trivial), HB4⟩
          case measure => simp [intOf]; omega
        · have e1 : (ek != 0) = true := by simpa using he0
          have e2 := FK.out he0
          subst e2
          have hr0 := HEX.out.trans (if_pos he0)
          subst hr0
          clear HEX FK HJ2 he0
          go_wp2_with fail
          go_ret
          exact RetB.mk rfl HB4
      obtain rfl : k = LA.length := by omega
      have hf0 := (FA).out (fun j hj => HJ.out j hj hj)
      subst hf0
      replace HEX := Lib.hid (HEX.out.trans (if_neg (by simp)))
      have hlt' : ¬ (LA.length : Int) < LA.length := by omega
      clear HJ hlt hk FA FA'
      go_wp2_with fail
      rw [rounds_succ]
      go_wp2_with fail
      go_loopw [64] (fun iv wr => ∃ k : Nat, k ≤ LU.length ∧ iv = .int .i64 k ∧ Hid (∀ j (hj : j < LU.length), j < k → checkR LU[j] = 0) ∧ Below w.heap.size w wr) (fun iv _ => LU.length - (intOf iv).toNat)
      case atStart => exact ⟨0, Nat.zero_le _, rfl, Lib.hid (fun j hj h => by omega), HBr⟩
      clear HBr
      obtain ⟨k, hk, rfl, HJ, HBr⟩ := hrel
      by_cases hlt : k < LU.length
      case pos =>
        have hlt' : (k : Int) < LU.length := by omega
        obtain ⟨ba, oa, hA, hba, hel⟩ := hu (by omega)
        subst hA
        obtain ⟨ck, hrg, hRR⟩ := hel k hlt
        have hRk := range_below hrg HBr hba
        have ckl := hRR.len
        have ck1 := Lib.hid hRR.one
        have CK := Lib.hid (fun w' (b : Below w.heap.size w w') => rcheck_any ck LU[k] w' (hRR.below b))
        have FK := Lib.hid ((FU').out k hlt HJ.out)
        have HJ2 := Lib.hid (fun (hz : checkR LU[k] = 0) j (hj : j < LU.length) (hjk : j < k + 1) => (by by_cases e : j = k; (subst e; exact hz); exact HJ.out j hj (by omega) : checkR LU[j] = 0))
        clear hel hrg hRR HJ
        generalize checkR (LU[k]'hlt) = ek at *
        go_wp2_with (first
          | (refine at_op (.load 86 (.tmp 66)) rfl ?_; go_must (refine wpList_ldR rfl 86 (.tmp 66) rfl ba (oa + k * 33) rfl ck hRk _ Try.underlying86 rfl (by rw [ckl]; exact rrInfo) ?_))
          | (refine at_op (.store 86 (.tmp 12) (.tmp 67)) rfl ?_; go_must (refine wpList_stB rfl 86 (.tmp 12) (.tmp 67) rfl wr.heap.size 0 rfl ck rfl (Blk.new' _ _ rrZ _ (by simp)) (by rw [rrZ_len]; omega) (by rw [ckl]; exact rrInfo) ck1.out ?_)))
        intro w3 hb3 hg3 hs3
        rw [List.drop_of_length_le (by rw [rrZ_len]; omega), List.append_nil] at hb3
        have HB3 : Below w.heap.size w w3 := below_grown (HBr.alloc HBr.size _) hg3 (by have := HBr.size; simp; omega) HBr.size
        clear hg3 hs3 hRk HBr
        go_wp2_with (refine at_op (.load 86 (.tmp 12)) rfl ?_; go_must (refine wpList_ldB rfl 86 (.tmp 12) rfl wr.heap.size 0 rfl hb3 33 (by omega) _ Try.underlying86 rfl rrInfo ck (by rw [List.drop_zero, List.take_of_length_le (by omega)]) ?_))
        refine (CK.out _ HB3).mono ?_
        rintro _ w4 ⟨rfl, b4⟩
        have HB4 := below_then HB3 HB3.size b4
        clear CK hb3 b4 HB3
        by_cases he0 : ek = 0
        · subst he0
          go_wp2_with fail
          go_roundw
          case rel => exact ⟨k + 1, by omega, by go_num, Lib.hid (HJ2.out trivial), HB4⟩
          case measure => simp [intOf]; omega
        · have e1 : (ek != 0) = true := by simpa using he0
          have e2 := FK.out he0
          subst e2
          have hr0 := HEX.out.trans (if_pos he0)
          subst hr0
          clear HEX FK HJ2 he0
          go_wp2_with fail
          go_ret
          exact RetB.mk rfl HB4
      obtain rfl : k = LU.length := by omega
      have hf0 := (FU).out (fun j hj => HJ.out j hj hj)
      subst hf0
      replace HEX := Lib.hid (HEX.out.trans (if_neg (by simp)))
      have hlt' : ¬ (LU.length : Int) < LU.length := by omega
      clear HJ hlt hk FU FU'
      go_wp2_with fail
      replace HEX : Hid (res = if fe ≠ 0 then fe else 0) := Lib.hid (by rw [HEX.out]; by_cases h : fe = 0 <;> simp [h])
      rw [rounds_succ]
      go_wp2_with fail
      go_loopw [64] (fun iv wr => ∃ k : Nat, k ≤ LE.length ∧ iv = .int .i64 k ∧ Hid (∀ j (hj : j < LE.length), j < k → checkR LE[j] = 0) ∧ Below w.heap.size w wr) (fun iv _ => LE.length - (intOf iv).toNat)
      case atStart => exact ⟨0, Nat.zero_le _, rfl, Lib.hid (fun j hj h => by omega), HBr⟩
      clear HBr
      obtain ⟨k, hk, rfl, HJ, HBr⟩ := hrel
      by_cases hlt : k < LE.length
      case pos =>
        have hlt' : (k : Int) < LE.length := by omega
        obtain ⟨ba, oa, hA, hba, hel⟩ := he (by omega)
        subst hA
        obtain ⟨ck, hrg, hRR⟩ := hel k hlt
        have hRk := range_below hrg HBr hba
        have ckl := hRR.len
        have ck1 := Lib.hid hRR.one
        have CK := Lib.hid (fun w' (b : Below w.heap.size w w') => rcheck_any ck LE[k] w' (hRR.below b))
        have FK := Lib.hid ((FE').out k hlt HJ.out)
        have HJ2 := Lib.hid (fun (hz : checkR LE[k] = 0) j (hj : j < LE.length) (hjk : j < k + 1) => (by by_cases e : j = k; (subst e; exact hz); exact HJ.out j hj (by omega) : checkR LE[j] = 0))
        clear hel hrg hRR HJ
        generalize checkR (LE[k]'hlt) = ek at *
        go_wp2_with (first
          | (refine at_op (.load 86 (.tmp 66)) rfl ?_; go_must (refine wpList_ldR rfl 86 (.tmp 66) rfl ba (oa + k * 33) rfl ck hRk _ Try.underlying86 rfl (by rw [ckl]; exact rrInfo) ?_))
          | (refine at_op (.store 86 (.tmp 12) (.tmp 67)) rfl ?_; go_must (refine wpList_stB rfl 86 (.tmp 12) (.tmp 67) rfl wr.heap.size 0 rfl ck rfl (Blk.new' _ _ rrZ _ (by simp)) (by rw [rrZ_len]; omega) (by rw [ckl]; exact rrInfo) ck1.out ?_)))
        intro w3 hb3 hg3 hs3
        rw [List.drop_of_length_le (by rw [rrZ_len]; omega), List.append_nil] at hb3
        have HB3 : Below w.heap.size w w3 := below_grown (HBr.alloc HBr.size _) hg3 (by have := HBr.size; simp; omega) HBr.size
        clear hg3 hs3 hRk HBr
        go_wp2_with (refine at_op (.load 86 (.tmp 12)) rfl ?_; go_must (refine wpList_ldB rfl 86 (.tmp 12) rfl wr.heap.size 0 rfl hb3 33 (by omega) _ Try.underlying86 rfl rrInfo ck (by rw [List.drop_zero, List.take_of_length_le (by omega)]) ?_))
        refine (CK.out _ HB3).mono ?_
        rintro _ w4 ⟨rfl, b4⟩
        have HB4 := below_then HB3 HB3.size b4
        clear CK hb3 b4 HB3
        by_cases he0 : ek = 0
        · subst he0
          go_wp2_with fail
          go_roundw
          case rel => exact ⟨k + 1, by omega, by go_num, Lib.hid (HJ2.out trivial), HB4⟩
          case measure => simp [intOf]; omega
        · have e1 : (ek != 0) = true := by simpa using he0
          have e2 := FK.out he0
          subst e2
          have hr0 := HEX.out.trans (if_pos he0)
          subst hr0
          clear HEX FK HJ2 he0
          go_wp2_with fail
          go_ret
          exact RetB.mk rfl HB4
      obtain rfl : k = LE.length := by omega
      have hf0 := (FE).out (fun j hj => HJ.out j hj hj)
      subst hf0
      replace HEX := Lib.hid (HEX.out.trans (if_neg (by simp)))
      have hlt' : ¬ (LE.length : Int) < LE.length := by omega
      clear HJ hlt hk FE FE'
      go_wp2_with fail
      obtain rfl : res = 0 := HEX.out
      rw [rounds_succ]
      go_wp2_with fail
      go_ret
      exact RetB.mk rfl HBr
end Go.Proofs.Ytlmgdogblbigpaa
