/-
  The reference's layer 14: Check.
-/
import Derived.Test.YtlmgdogblbigpaaAl
import Derived.Test.YtlmgdogblbigpaaGU
namespace Go.Proofs.Ytlmgdogblbigpaa
open Go.RowKit
set_option maxRecDepth 100000
set_option linter.unusedVariables false
set_option linter.unusedSimpArgs false

theorem checkM_eq2 (m : Msg) : checkM m = if m.hd.ok = false then 4
    else if 65535 < m.qs.length ∨ 65535 < m.an.length ∨ 65535 < m.au.length ∨ 65535 < m.ex.length then 3
    else if fstE (m.qs.map qE) ≠ 0 then fstE (m.qs.map qE)
    else fstE (m.rrs.map checkR) := rfl
set_option maxHeartbeats 4000000 in
theorem refmcheck_any (cs : List Value) (m : Msg) (Aq Aa Au Ae : Option Addr) (cq ca cu ce : Nat) (w : World) (h : MsgIs w cs m Aq Aa Au Ae cq ca cu ce) :
    Calls Try.prog 32 #[.agg cs.toArray] w (RetB (.int .i64 (checkM m)) w) := by
  have hcs := h.hcs
  have hl : cs.length = 14 := by rw [hcs]; exact msgC_len _ _ _ _ _
  have L10 : cs[10]? = some (.slice Aq m.qs.length cq) := by rw [hcs]; rfl
  have L11 : cs[11]? = some (.slice Aa m.an.length ca) := by rw [hcs]; rfl
  have L12 : cs[12]? = some (.slice Au m.au.length cu) := by rw [hcs]; rfl
  have L13 : cs[13]? = some (.slice Ae m.ex.length ce) := by rw [hcs]; rfl
  have LH : (cs.drop 0).take 10 = m.hd.vals := by rw [hcs]; rfl
  have LI := Lib.hid (fun w' (b : Below w.heap.size w w') => all_any cs m Aq Aa Au Ae cq ca cu ce w w' h b)
  have CH : Hid (∀ w, Calls Try.prog 78 #[.agg m.hd.vals.toArray] w (RetB (.int .i64 (if m.hd.ok then 0 else 4)) w)) := Lib.hid (fun w => refCheck_any m.hd w)
  have lq := h.lq
  have la := h.la
  have lu := h.lu
  have le := h.le
  have hq := h.hq
  have HE := Lib.hid (checkM_eq2 m)
  have FQ := Lib.hid (fstM_ok qE m.qs)
  have FQ' := Lib.hid (fstM_bad qE m.qs)
  have FA := Lib.hid (fstM_ok checkR m.rrs)
  have FA' := Lib.hid (fstM_bad checkR m.rrs)
  have hlen : m.rrs.length = m.an.length + m.au.length + m.ex.length := by simp [Msg.rrs]; omega
  clear h hcs
  generalize checkM m = res at *
  generalize fstE (m.qs.map qE) = fq at *
  generalize fstE (m.rrs.map checkR) = fa at *
  generalize m.hd.vals = HV at *
  generalize m.hd.ok = ok at *
  generalize m.qs = Q at *
  generalize m.rrs = R at *
  generalize m.an.length = na at *
  generalize m.au.length = nu at *
  generalize m.ex.length = ne at *
  have B0 := Blk.new w 52 cs
  have HB0 : Below w.heap.size w (w.alloc (.cells cs.toArray 52)) := (Below.refl _ _).alloc (Nat.le_refl _) _
  go_enter Try.func32, Try.ntmps32
  go_wp2_with (refine at_op (.load 48 (.tmp 10)) rfl ?_; go_must (refine wpList_ldB rfl 48 (.tmp 10) rfl w.heap.size 0 rfl B0 10 (by omega) _ Try.underlying48 rfl hdInfo HV LH ?_))
  go_wp2_with fail
  refine (CH.out _).mono ?_
  rintro _ w2 ⟨rfl, b1⟩
  have B2 := B0.below b1 B0.lt
  have HB2 := below_then HB0 HB0.size b1
  clear B0 HB0 b1 CH
  cases ok with
  | false =>
    have hr0 := HE.out.trans (if_pos rfl)
    subst hr0
    clear HE
    go_wp2_with fail
    go_ret
    exact RetB.mk rfl HB2
  | true =>
  have HE1 := Lib.hid (HE.out.trans (if_neg (by simp)))
  clear HE
  have c10 := B2.cell_ 10 L10
  have c11 := B2.cell_ 11 L11
  have c12 := B2.cell_ 12 L12
  have c13 := B2.cell_ 13 L13
  by_cases h1 : 65535 < Q.length
  case pos =>
    have h1' : (65535 : Int) < Q.length := by omega
    have hr0 := HE1.out.trans (if_pos (.inl h1))
    subst hr0
    clear HE1 h1 hlen
    go_wp2_with fail
    go_ret
    exact RetB.mk rfl HB2
  have h1' : ¬ (65535 : Int) < Q.length := by omega
  by_cases h2 : 65535 < na
  case pos =>
    have h2' : (65535 : Int) < na := by omega
    have hr0 := HE1.out.trans (if_pos (.inr (.inl h2)))
    subst hr0
    clear HE1 h2 h1 hlen
    go_wp2_with fail
    go_ret
    exact RetB.mk rfl HB2
  have h2' : ¬ (65535 : Int) < na := by omega
  by_cases h3 : 65535 < nu
  case pos =>
    have h3' : (65535 : Int) < nu := by omega
    have hr0 := HE1.out.trans (if_pos (.inr (.inr (.inl h3))))
    subst hr0
    clear HE1 h3 h2 h1 hlen
    go_wp2_with fail
    go_ret
    exact RetB.mk rfl HB2
  have h3' : ¬ (65535 : Int) < nu := by omega
  by_cases h4 : 65535 < ne
  case pos =>
    have h4' : (65535 : Int) < ne := by omega
    have hr0 := HE1.out.trans (if_pos (.inr (.inr (.inr h4))))
    subst hr0
    clear HE1 h4 h3 h2 h1 hlen
    go_wp2_with fail
    go_ret
    exact RetB.mk rfl HB2
  have h4' : ¬ (65535 : Int) < ne := by omega
  have HE2 := Lib.hid (HE1.out.trans (if_neg (by omega)))
  have AL := Lib.hid (fun w' b => LI.out w' b (by omega) (by omega) (by omega))
  clear HE1 LI L11 L12 L13
  go_wp2_with fail
  clear h1 h2 h3 h4 c11 c12 c13
  go_loopw [4] (fun iv wr => ∃ k : Nat, k ≤ Q.length ∧ iv = .int .i64 k ∧ Hid (∀ j (hj : j < Q.length), j < k → qE Q[j] = 0) ∧ Below w2.heap.size w2 wr) (fun iv _ => Q.length - (intOf iv).toNat)
  case atStart => exact ⟨0, Nat.zero_le _, rfl, Lib.hid (fun j hj h => by omega), Below.refl _ _⟩
  clear c10
  obtain ⟨k, hk, rfl, HJ, hb⟩ := hrel
  have HBr := below_then HB2 (below_size_le HB2 (Nat.le_refl _)) hb
  have Br := B2.below hb B2.lt
  have c10 := Br.cell_ 10 L10
  by_cases hlt : k < Q.length
  case pos =>
    have hlt' : (k : Int) < Q.length := by omega
    obtain ⟨ba, oa, hA, hba, hel⟩ := hq (by omega)
    subst hA
    obtain ⟨An, cn, hrg, hN⟩ := hel k hlt
    have hRk := range_below hrg HBr hba
    unfold qC at hRk
    have CK := Lib.hid (fun w' (b : Below w.heap.size w w') => refCheck05_any An cn Q[k].name w' (hN.below b).1 (by have := hN.2.2.1; omega))
    have W1 := Lib.hid (fun w => refOut14_any Q[k].ty w)
    have W2 := Lib.hid (fun w => refOut14_any Q[k].cl w)
    have FK := Lib.hid (FQ'.out k hlt HJ.out)
    have HJ2 := Lib.hid (fun (hz : qE Q[k] = 0) j (hj : j < Q.length) (hjk : j < k + 1) => (by by_cases e : j = k; (subst e; exact hz); exact HJ.out j hj (by omega) : qE Q[j] = 0))
    have HQ : Hid (qE Q[k] = _) := Lib.hid (by unfold qE; rfl)
    clear hel hrg hN HJ
    generalize qE (Q[k]'hlt) = qe at *
    generalize checkN (Q[k]'hlt).name = e0 at *
    generalize (Q[k]'hlt).name.length = nl at *
    generalize inB 65535 (Q[k]'hlt).ty = i1 at *
    generalize inB 65535 (Q[k]'hlt).cl = i2 at *
    generalize (Q[k]'hlt).ty = ty at *
    generalize (Q[k]'hlt).cl = cl at *
    go_wp2_with (refine at_op (.load 61 (.tmp 48)) rfl ?_; go_must (refine wpList_ldR rfl 61 (.tmp 48) rfl ba (oa + k * 3) rfl [.slice An nl cn, .int .i64 ty, .int .i64 cl] hRk _ Try.underlying61 rfl qInfo ?_))
    have HBn := HBr.alloc HBr.size (.cells #[.slice An nl cn, .int .i64 ty, .int .i64 cl] 61)
    have hbn := hb.alloc hb.size (.cells #[.slice An nl cn, .int .i64 ty, .int .i64 cl] 61)
    refine (CK.out _ HBn).mono ?_
    rintro _ w4 ⟨rfl, rfl⟩
    clear CK hRk HBr hb c10 Br
    by_cases he0 : e0 = 0
    case neg =>
      have e1 : (e0 != 0) = true := by simpa using he0
      have e2 := HQ.out.trans (if_pos he0)
      subst e2
      have e3 := FK.out he0
      subst e3
      have hr0 := HE2.out.trans (if_pos he0)
      subst hr0
      clear HE2 FK HJ2 HQ he0
      go_wp2_with fail
      go_ret
      exact RetB.mk rfl HBn
    subst he0
    replace HQ := Lib.hid (HQ.out.trans (if_neg (by simp)))
    go_wp2_with fail
    refine (W1.out _).mono ?_
    rintro _ w4 ⟨rfl, rfl⟩
    clear W1
    cases i1 with
    | false =>
      have e2 : qe = 4 := HQ.out
      subst e2
      have e3 := FK.out (by decide)
      subst e3
      have hr0 := HE2.out.trans (if_pos (by decide))
      subst hr0
      clear HE2 FK HJ2 HQ
      go_wp2_with fail
      go_ret
      exact RetB.mk rfl HBn
    | true =>
    go_wp2_with fail
    refine (W2.out _).mono ?_
    rintro _ w4 ⟨rfl, rfl⟩
    clear W2
    cases i2 with
    | false =>
      have e2 : qe = 4 := HQ.out
      subst e2
      have e3 := FK.out (by decide)
      subst e3
      have hr0 := HE2.out.trans (if_pos (by decide))
      subst hr0
      clear HE2 FK HJ2 HQ
      go_wp2_with fail
      go_ret
      exact RetB.mk rfl HBn
    | true =>
      have e2 : qe = 0 := HQ.out
      subst e2
      clear HQ
      go_wp2_with fail
      go_roundw
      case rel => exact ⟨k + 1, by omega, by go_num, Lib.hid (HJ2.out trivial), hbn⟩
      case measure => simp [intOf]; omega
  obtain rfl : k = Q.length := by omega
  have hf0 := FQ.out (fun j hj => HJ.out j hj hj)
  subst hf0
  have HEX := Lib.hid (HE2.out.trans (if_neg (by simp)))
  have hlt' : ¬ (Q.length : Int) < Q.length := by omega
  clear HJ hlt FQ FQ' HE2 hb B2 HB2 hq hk
  go_wp2_with (refine at_op (.load 52 (.tmp 1)) rfl ?_; go_must (refine wpList_ldB rfl 52 (.tmp 1) rfl w.heap.size 0 rfl Br 14 (by omega) _ Try.underlying52 rfl msgInfo cs (by rw [List.drop_zero, List.take_of_length_le (by omega)]) ?_))
  refine (AL.out _ HBr).mono ?_
  rintro _ w3 ⟨A, c, rfl, hRow, b3⟩
  have HB3 := below_then HBr HBr.size b3
  clear Br c10 AL HBr b3
  have hRl : R.length ≤ 196605 := by omega
  clear hlen
  go_wp2_with fail
  go_loopw [8] (fun iv wr => ∃ k : Nat, k ≤ R.length ∧ iv = .int .i64 k ∧ Hid (∀ j (hj : j < R.length), j < k → checkR R[j] = 0) ∧ Below w3.heap.size w3 wr) (fun iv _ => R.length - (intOf iv).toNat)
  case atStart => exact ⟨0, Nat.zero_le _, rfl, Lib.hid (fun j hj h => by omega), Below.refl _ _⟩
  obtain ⟨k, hk, rfl, HJ, hb⟩ := hrel
  have HBr := below_then HB3 (below_size_le HB3 (Nat.le_refl _)) hb
  by_cases hlt : k < R.length
  case pos =>
    have hlt' : (k : Int) < R.length := by omega
    obtain ⟨g, cur, hA, hB, hcl, hel⟩ := hRow (by omega)
    subst hA
    obtain ⟨ck, hrg, hRR⟩ := hel k hlt
    have ckl := hRR.len
    have CK := Lib.hid (fun w' (b : Below w.heap.size w w') => refcheck13_any ck R[k] w' (hRR.below b))
    have FK := Lib.hid (FA'.out k hlt HJ.out)
    have HJ2 := Lib.hid (fun (hz : checkR R[k] = 0) j (hj : j < R.length) (hjk : j < k + 1) => (by by_cases e : j = k; (subst e; exact hz); exact HJ.out j hj (by omega) : checkR R[j] = 0))
    have Bk := hB.below hb hB.lt
    have hk33 : k * 33 + 33 ≤ cur.length := by omega
    clear hel hRR HJ
    generalize checkR (R[k]'hlt) = ek at *
    go_wp2_with (refine at_op (.load 86 (.tmp 74)) rfl ?_; go_must (refine wpList_ldB rfl 86 (.tmp 74) rfl g (k * 33) (by first | rfl | (show Value.pointer _ = _; simp)) Bk 33 hk33 _ Try.underlying86 rfl rrInfo ck hrg ?_))
    refine (CK.out _ HBr).mono ?_
    rintro _ w4 ⟨rfl, b4⟩
    have HB4 := below_then HBr HBr.size b4
    have hb4 := below_then hb hb.size b4
    clear CK b4 HBr hb Bk
    by_cases he0 : ek = 0
    · subst he0
      go_wp2_with fail
      go_roundw
      case rel => exact ⟨k + 1, by omega, by go_num, Lib.hid (HJ2.out trivial), hb4⟩
      case measure => simp [intOf]; omega
    · have e1 : (ek != 0) = true := by simpa using he0
      have e2 := FK.out he0
      subst e2
      have hr0 := HEX.out
      subst hr0
      clear HEX FK HJ2 he0
      go_wp2_with fail
      go_ret
      exact RetB.mk rfl HB4
  obtain rfl : k = R.length := by omega
  have hf0 := FA.out (fun j hj => HJ.out j hj hj)
  subst hf0
  obtain rfl := HEX.out
  have hlt' : ¬ (R.length : Int) < R.length := by omega
  clear HJ hlt hk HEX
  go_wp2_with fail
  go_ret
  exact RetB.mk rfl HBr
end Go.Proofs.Ytlmgdogblbigpaa
