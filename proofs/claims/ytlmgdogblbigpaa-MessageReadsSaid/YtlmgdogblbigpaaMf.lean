/-
  The reference's layer 14: Encode.
-/
import Derived.Test.YtlmgdogblbigpaaMe
import Derived.Test.YtlmgdogblbigpaaMc3
import Derived.Test.YtlmgdogblbigpaaGV
namespace Go.Proofs.Ytlmgdogblbigpaa
open Go.RowKit
set_option maxRecDepth 100000
set_option linter.unusedVariables false
set_option linter.unusedSimpArgs false

structure PlanR (m : Msg) (pack : Bool) (s1 s4 : WS) : Prop where
  q : Fold putQ m.qs (startM m pack) s1 s4.1.length
  r : Fold putRec m.rrs s1 s4 s4.1.length
  eq : s4 = encS m pack
theorem planR_of (m : Msg) (pack : Bool) (hq : m.qs.length ≤ 100) (hr : m.rrs.length ≤ 200) : ∃ s1 s4, PlanR m pack s1 s4 := by
  have f0 := few_start m pack
  have f1 := few_foldQ m.qs _ _ f0
  have e1 := foldR_len m.rrs (m.qs.foldl putQ (startM m pack))
  exact ⟨_, _, foldQ_of m.qs _ 0 _ f0 (by omega) (by omega), foldR_of m.rrs _ _ _ f1 (Nat.le_refl _) (by omega), rfl⟩
theorem foldQ_max (l : List Qn) : ∀ st : WS, (l.foldl putQ st).1.length ≤ st.1.length + 304 * l.length := by
  induction l with
  | nil => intro st; simp
  | cons q l ih =>
    intro st
    have := ih (putQ st q)
    have h2 := putSO_len st.2 (st.1.length : Int) q.name
    have h3 : (putQ st q).1.length ≤ st.1.length + 304 := by simp only [putQ, List.length_append, putB_length]; omega
    simp only [List.foldl_cons, List.length_cons]
    omega
theorem KeepR.blkM {lo : Nat} {w w' : World} (h : KeepR lo w w') {g : Nat} {cs : List Value} (hb : Blk w g 52 cs) : Blk w' g 52 cs := h.2 g _ cs hb (by decide) (by decide)
theorem KeepR.blkQ {lo : Nat} {w w' : World} (h : KeepR lo w w') {g : Nat} {cs : List Value} (hb : Blk w g 61 cs) : Blk w' g 61 cs := h.2 g _ cs hb (by decide) (by decide)
theorem KeepR.size {lo : Nat} {w w1 : World} (h : KeepR lo w w1) (hlo : lo ≤ w.heap.size) : lo ≤ w1.heap.size := below_size_le h.1 hlo
theorem rowR_keep {lo : Nat} {w0 w w' : World} {A : Option Addr} {l : List RR} (h : RowR w0 w A l) (hk : KeepR lo w w') : RowR w0 w' A l := by
  intro hp
  obtain ⟨g, cur, h1, h2, h3, h4⟩ := h hp
  exact ⟨g, cur, h1, hk.blk h2, h3, h4⟩
theorem refmencode_bad (cs : List Value) (m : Msg) (pack : Bool) (Aq Aa Au Ae : Option Addr) (cq ca cu ce : Nat) (w : World) (h : MsgIs w cs m Aq Aa Au Ae cq ca cu ce) (hc : checkM m ≠ 0) :
    Calls Try.prog 30 #[.agg cs.toArray, .bool pack] w (RetB (.tuple #[.string (bs []), .int .i64 (checkM m)]) w) := by
  have hl : cs.length = 14 := by rw [h.hcs]; exact msgC_len _ _ _ _ _
  have CK := Lib.hid (fun w' (b : Below w.heap.size w w') => refmcheck_any cs m Aq Aa Au Ae cq ca cu ce w' (h.below b))
  generalize checkM m = e at *
  have he : (e != 0) = true := by simpa using hc
  clear hc h
  have B0 := Blk.new w 52 cs
  have HB0 : Below w.heap.size w (w.alloc (.cells cs.toArray 52)) := (Below.refl _ _).alloc (Nat.le_refl _) _
  go_enter Try.func30, Try.ntmps30
  go_wp2_with (refine at_op (.load 52 (.tmp 2)) rfl ?_; go_must (refine wpList_ldB rfl 52 (.tmp 2) rfl w.heap.size 0 rfl B0 14 (by omega) _ Try.underlying52 rfl msgInfo cs (by rw [List.drop_zero, List.take_of_length_le (by omega)]) ?_))
  go_wp2_with fail
  refine (CK.out _ HB0).mono ?_
  rintro _ w1 ⟨rfl, b1⟩
  have HB1 := below_then HB0 HB0.size b1
  go_wp2_with fail
  go_ret2
  exact RetB.mk rfl HB1
set_option maxHeartbeats 8000000 in
theorem refmencode_good (cs : List Value) (m : Msg) (pack : Bool) (Aq Aa Au Ae : Option Addr) (cq ca cu ce : Nat) (w : World) (h : MsgIs w cs m Aq Aa Au Ae cq ca cu ce) (hc : checkM m = 0) (hq : m.qs.length ≤ 100) (hr : m.rrs.length ≤ 200) :
    Calls Try.prog 30 #[.agg cs.toArray, .bool pack] w (RetB (.tuple #[.string (bs (encM m pack).1), .int .i64 (encM m pack).2]) w) := by
  have MK := mOk_of hc
  obtain ⟨s1, s4, PL⟩ := planR_of m pack hq hr
  have hcs := h.hcs
  have hl : cs.length = 14 := by rw [hcs]; exact msgC_len _ _ _ _ _
  have L10 : cs[10]? = some (.slice Aq m.qs.length cq) := by rw [hcs]; rfl
  have L11 : cs[11]? = some (.slice Aa m.an.length ca) := by rw [hcs]; rfl
  have L12 : cs[12]? = some (.slice Au m.au.length cu) := by rw [hcs]; rfl
  have L13 : cs[13]? = some (.slice Ae m.ex.length ce) := by rw [hcs]; rfl
  have LH : (cs.drop 0).take 10 = m.hd.vals := by rw [hcs]; rfl
  have AL := Lib.hid (fun w' (b : Below w.heap.size w w') => all_any cs m Aq Aa Au Ae cq ca cu ce w w' h b MK.la MK.lu MK.le)
  have CK := Lib.hid (fun w' (b : Below w.heap.size w w') => refmcheck_any cs m Aq Aa Au Ae cq ca cu ce w' (h.below b))
  rw [hc] at CK
  have HP : Hid (∀ w, Calls Try.prog 72 #[.agg m.hd.vals.toArray, .agg #[.int .i64 (m.qs.length : Int), .int .i64 (m.an.length : Int), .int .i64 (m.au.length : Int), .int .i64 (m.ex.length : Int)]] w (RetB (.tuple #[.string (bs (startM m pack).1), .int .i64 0]) w)) := Lib.hid (fun w => by
    have := refHeadPut_any m.hd m.qs.length m.an.length m.au.length m.ex.length w
    rw [putRes_ok MK pack] at this
    exact this)
  have RL : Hid (65535 < s4.1.length → (encM m pack).1 = [] ∧ (encM m pack).2 = 3) := Lib.hid (fun hl => by rw [encM_long pack hc (by rw [← PL.eq]; exact hl)]; exact ⟨rfl, rfl⟩)
  have RO : Hid (¬ 65535 < s4.1.length → (encM m pack).1 = s4.1 ∧ (encM m pack).2 = 0) := Lib.hid (fun hl => by rw [encM_ok pack hc (by rw [← PL.eq]; exact hl), ← PL.eq]; exact ⟨rfl, rfl⟩)
  have hq' := h.hq
  have FQ := Lib.hid PL.q
  have FR := Lib.hid PL.r
  have RC : Hid (∀ k (hk : k < m.rrs.length), checkR m.rrs[k] = 0) := Lib.hid (fun k hk => MK.r _ (List.getElem_mem hk))
  have lq := MK.lq
  have la := MK.la
  have lu := MK.lu
  have le := MK.le
  have h12 := start_len m pack
  have QM : Hid (∀ k, ((m.qs.take k).foldl putQ (startM m pack)).1.length ≤ 50000) := Lib.hid (fun k => by
    have := foldQ_max (m.qs.take k) (startM m pack)
    have h2 : (m.qs.take k).length ≤ 100 := by simp only [List.length_take]; omega
    omega)
  have hT0 : (startM m pack).2 = if pack then some [] else none := rfl
  clear h hcs hc MK PL
  generalize (encM m pack).1 = o1 at *
  generalize (encM m pack).2 = o2 at *
  generalize startM m pack = s0 at *
  generalize m.hd.vals = HV at *
  generalize m.rrs = R at *
  generalize m.qs = Q at *
  generalize m.an.length = na at *
  generalize m.au.length = nu at *
  generalize m.ex.length = ne at *
  have B0 := Blk.new w 52 cs
  have HB0 : Below w.heap.size w (w.alloc (.cells cs.toArray 52)) := (Below.refl _ _).alloc (Nat.le_refl _) _
  go_enter Try.func30, Try.ntmps30
  go_wp2_with (refine at_op (.load 52 (.tmp 2)) rfl ?_; go_must (refine wpList_ldB rfl 52 (.tmp 2) rfl w.heap.size 0 rfl B0 14 (by omega) _ Try.underlying52 rfl msgInfo cs (by rw [List.drop_zero, List.take_of_length_le (by omega)]) ?_))
  go_wp2_with fail
  refine (CK.out _ HB0).mono ?_
  rintro _ w1 ⟨rfl, b1⟩
  have B1 := B0.below b1 B0.lt
  have HB1 := below_then HB0 HB0.size b1
  clear B0 HB0 b1 CK
  go_upto_if 25 with fail
  go_cut [7] (fun v wx => ∃ p, v = .pointer p ∧ RTabO w1.heap.size wx p s0.2 ∧ KeepR w1.heap.size w1 wx)
  case first =>
    cases pack with
    | false =>
      have hT1 : s0.2 = none := hT0
      go_wp2_with fail
      go_meet
      case rel => exact ⟨none, rfl, by rw [hT1]; rfl, KeepR.refl _ _⟩
    | true =>
      have hT1 : s0.2 = some [] := hT0
      have HT1 := Lib.hid hT1
      clear hT1 hT0
      go_wp2_with fail
      go_meet
      case rel => exact ⟨_, rfl, by rw [HT1.out]; exact ⟨_, rfl, Nat.le_refl _, RTab.new w1 _ rfl⟩, KeepR.old ((Below.refl _ _).alloc (Nat.le_refl _) _) (Nat.le_refl _)⟩
  case rest =>
    obtain ⟨p, rfl, T2, K2⟩ := hcut
    clear hT0
    generalize wc = w2 at *
    have B2 := K2.blkM B1
    have c10 := B2.cell_ 10 L10
    have c11 := B2.cell_ 11 L11
    have c12 := B2.cell_ 12 L12
    have c13 := B2.cell_ 13 L13
    have hlo2 := K2.size (Nat.le_refl _)
    go_wp2_with (refine at_op (.load 48 (.tmp 29)) rfl ?_; go_must (refine wpList_ldB rfl 48 (.tmp 29) rfl w.heap.size 0 rfl B2 10 (by omega) _ Try.underlying48 rfl hdInfo HV LH ?_))
    refine (HP.out _).mono ?_
    rintro _ w3 ⟨rfl, b3⟩
    have T3 := T2.below hlo2 b3
    have K3 := K2.trans (KeepR.old b3 hlo2)
    have B3 := K3.blkM B1
    clear c10 c11 c12 c13 HP LH B2 T2 K2 b3 hlo2 L11 L12 L13
    have c10 := B3.cell_ 10 L10
    go_wp2_with fail
    go_loopw [8, 10] (fun sv iv wr => ∃ k : Nat, k ≤ Q.length ∧ iv = .int .i64 k ∧ sv = .string (bs ((Q.take k).foldl putQ s0).1) ∧ RTabO w1.heap.size wr p ((Q.take k).foldl putQ s0).2 ∧ KeepR w1.heap.size w1 wr) (fun _ iv _ => Q.length - (intOf iv).toNat)
    case atStart => exact ⟨0, Nat.zero_le _, rfl, rfl, T3, K3⟩
    clear c10 T3 K3 B3
    obtain ⟨k, hk, rfl, rfl, Tr, Kr⟩ := hrel
    have Br := Kr.blkM B1
    have c10 := Br.cell_ 10 L10
    have HBr : Below w.heap.size w wr := HB1.trans (Kr.1.mono HB1.size)
    have hlo := Kr.size (Nat.le_refl _)
    by_cases hlt : k < Q.length
    case pos =>
      have hlt' : (k : Int) < Q.length := by omega
      obtain ⟨ba, oa, hA, hba, hel⟩ := hq' (by omega)
      subst hA
      obtain ⟨An, cn, hrg, hN⟩ := hel k hlt
      have hRk := range_below hrg HBr hba
      have ST := Lib.hid (FQ.out.step k hlt)
      have FW := FQ.out.few k
      have PT := Lib.hid (fun w' (b : Below wr.heap.size wr w') => refputO_any w1.heap.size p ((Q.take k).foldl putQ s0).2 An cn Q[k].name (((Q.take k).foldl putQ s0).1.length : Int) w w' HB1.size (below_then HBr HBr.size b) (Nat.le_trans hlo b.size) (Tr.below hlo b) hN (FW.mono (by omega)))
      have xm := QM.out k
      have xl := putSO_len ((Q.take k).foldl putQ s0).2 (((Q.take k).foldl putQ s0).1.length : Int) Q[k].name
      have P1 := Lib.hid (fun w => refput2_any Q[k].ty w)
      have P2 := Lib.hid (fun w => refput2_any Q[k].cl w)
      have l1 := putB_length 2 Q[k].ty
      have l2 := putB_length 2 Q[k].cl
      unfold qC at hRk
      have S1 : Hid (((Q.take (k + 1)).foldl putQ s0).1 = ((Q.take k).foldl putQ s0).1 ++ putSO ((Q.take k).foldl putQ s0).2 (((Q.take k).foldl putQ s0).1.length : Int) Q[k].name ++ putB 2 Q[k].ty ++ putB 2 Q[k].cl) := Lib.hid (congrArg Prod.fst ST.out)
      have S2 : Hid (((Q.take (k + 1)).foldl putQ s0).2 = putTO ((Q.take k).foldl putQ s0).2 (((Q.take k).foldl putQ s0).1.length : Int) Q[k].name) := Lib.hid (congrArg Prod.snd ST.out)
      clear hel hrg hN FW ST
      generalize putTO ((Q.take k).foldl putQ s0).2 (((Q.take k).foldl putQ s0).1.length : Int) (Q[k]'hlt).name = T' at *
      generalize putSO ((Q.take k).foldl putQ s0).2 (((Q.take k).foldl putQ s0).1.length : Int) (Q[k]'hlt).name = x at *
      obtain ⟨s, hs⟩ : ∃ s, s = ((Q.take k).foldl putQ s0).1 := ⟨_, rfl⟩
      rw [← hs] at PT xm S1 ⊢
      clear hs
      generalize putB 2 (Q[k]'hlt).ty = y1 at *
      generalize putB 2 (Q[k]'hlt).cl = y2 at *
      generalize checkN (Q[k]'hlt).name = e at *
      generalize (Q[k]'hlt).name.length = nl at *
      generalize (Q[k]'hlt).ty = ty at *
      generalize (Q[k]'hlt).cl = cl at *
      go_wp2_with (refine at_op (.load 61 (.tmp 57)) rfl ?_; go_must (refine wpList_ldR rfl 61 (.tmp 57) rfl ba (oa + k * 3) rfl [.slice An nl cn, .int .i64 ty, .int .i64 cl] hRk _ Try.underlying61 rfl qInfo ?_))
      have bo : Below wr.heap.size wr (wr.alloc (.cells #[.slice An nl cn, .int .i64 ty, .int .i64 cl] 61)) := (Below.refl _ _).alloc (Nat.le_refl _) _
      have Bq := Blk.new wr 61 [.slice An nl cn, .int .i64 ty, .int .i64 cl]
      refine (PT.out _ bo).mono ?_
      rintro _ w4 ⟨rfl, T4, K4⟩
      have Bq4 := K4.blkQ Bq
      have K4' := (Kr.trans (KeepR.old bo hlo)).trans K4
      have hlo4 := K4'.size (Nat.le_refl _)
      clear PT K4 bo hlo Tr Kr HBr hRk Bq c10 Br
      have hn4 := Bq4.lt
      go_wp2_with fail
      refine wp_region_old (by kernel_rfl) (by kernel_rfl) ?_
      (refine wpQuiet_val (v := (.string (bs s))) rfl (fun W hW => by first | (go_simp; done) | (go_simp; omega)) ?_; simp only [Act.put, List.setIfInBounds_toArray, List.set_cons_zero, List.set_cons_succ])
      (refine wpQuiet_val (v := (.string (bs x))) rfl (fun W hW => by first | (go_simp; done) | (go_simp; omega)) ?_; simp only [Act.put, List.setIfInBounds_toArray, List.set_cons_zero, List.set_cons_succ])
      (refine wpQuiet_val (v := (.string (bs (s ++ x)))) rfl (fun W hW => by first | (go_simp; done) | (go_simp; omega)) ?_; simp only [Act.put, List.setIfInBounds_toArray, List.set_cons_zero, List.set_cons_succ])
      (refine wpQuiet_val (v := (.pointer (some ⟨wr.heap.size, 1, none⟩))) rfl (fun W hW => by first | (go_simp; done) | (go_simp; omega)) ?_; simp only [Act.put, List.setIfInBounds_toArray, List.set_cons_zero, List.set_cons_succ])
      refine wpQuiet_ld 3 (.tmp 71) rfl ⟨wr.heap.size, 1, none⟩ rfl rfl (fun W hW => run_load1 Try.underlying3 rfl ((Bq4.below hW Bq4.lt).cell_ 1 rfl)) ?_
      simp only [Act.put, List.setIfInBounds_toArray, List.set_cons_zero, List.set_cons_succ]
      refine wpQuiet_call 65 #[.int .i64 2, .int .i64 ty] rfl (fun W => by go_simp) (fun W hW => RetB.old hW (P1.out W)) ?_
      simp only [Act.put, List.setIfInBounds_toArray, List.set_cons_zero, List.set_cons_succ]
      (refine wpQuiet_val (v := (.string (bs (s ++ x ++ y1)))) rfl (fun W hW => by first | (go_simp; done) | (go_simp; omega)) ?_; simp only [Act.put, List.setIfInBounds_toArray, List.set_cons_zero, List.set_cons_succ])
      (refine wpQuiet_val (v := (.pointer (some ⟨wr.heap.size, 2, none⟩))) rfl (fun W hW => by first | (go_simp; done) | (go_simp; omega)) ?_; simp only [Act.put, List.setIfInBounds_toArray, List.set_cons_zero, List.set_cons_succ])
      refine wpQuiet_ld 3 (.tmp 75) rfl ⟨wr.heap.size, 2, none⟩ rfl rfl (fun W hW => run_load1 Try.underlying3 rfl ((Bq4.below hW Bq4.lt).cell_ 2 rfl)) ?_
      simp only [Act.put, List.setIfInBounds_toArray, List.set_cons_zero, List.set_cons_succ]
      refine wpQuiet_call 65 #[.int .i64 2, .int .i64 cl] rfl (fun W => by go_simp) (fun W hW => RetB.old hW (P2.out W)) ?_
      simp only [Act.put, List.setIfInBounds_toArray, List.set_cons_zero, List.set_cons_succ]
      (refine wpQuiet_val (v := (.string (bs (s ++ x ++ y1 ++ y2)))) rfl (fun W hW => by first | (go_simp; done) | (go_simp; omega)) ?_; simp only [Act.put, List.setIfInBounds_toArray, List.set_cons_zero, List.set_cons_succ])
      (refine wpQuiet_val (v := (.string (bs (s ++ x ++ y1 ++ y2)))) rfl (fun W hW => by first | (go_simp; done) | (go_simp; omega)) ?_; simp only [Act.put, List.setIfInBounds_toArray, List.set_cons_zero, List.set_cons_succ])
      refine wpQuiet_nil ?_
      intro w5 b5
      have T5 := T4.below hlo4 b5
      have K5 := K4'.trans (KeepR.old b5 hlo4)
      clear T4 K4' b5 Bq4 P1 P2
      go_wp2_with fail
      go_roundw
      case rel => exact ⟨k + 1, by omega, by go_num, by rw [S1.out], by rw [S2.out]; exact T5, K5⟩
      case measure => simp [intOf]; omega
    obtain rfl : k = Q.length := by omega
    have hlt' : ¬ (Q.length : Int) < Q.length := by omega
    have xm := QM.out Q.length
    rw [FQ.out.done] at Tr xm ⊢
    clear hlt hk FQ hq' QM L10 h12
    go_wp2_with (refine at_op (.load 52 (.tmp 2)) rfl ?_; go_must (refine wpList_ldB rfl 52 (.tmp 2) rfl w.heap.size 0 rfl Br 14 (by omega) _ Try.underlying52 rfl msgInfo cs (by rw [List.drop_zero, List.take_of_length_le (by omega)]) ?_))
    refine (AL.out _ HBr).mono ?_
    rintro _ wa ⟨A, c, rfl, hRow, ba⟩
    replace Tr := Tr.below hlo ba
    replace Kr := Kr.trans (KeepR.old ba hlo)
    clear Br ba AL c10 HBr hlo
    clear B1
    go_wp2_with fail
    go_loopw [8, 15] (fun sv iv wr => ∃ k : Nat, k ≤ R.length ∧ iv = .int .i64 k ∧ sv = .string (bs ((R.take k).foldl putRec s1).1) ∧ ((R.take k).foldl putRec s1).1.length ≤ 10000000 ∧ RTabO w1.heap.size wr p ((R.take k).foldl putRec s1).2 ∧ KeepR w1.heap.size w1 wr ∧ RowR w wr A R) (fun _ iv _ => R.length - (intOf iv).toNat)
    case atStart => exact ⟨0, Nat.zero_le _, rfl, rfl, by simp; omega, Tr, Kr, hRow⟩
    clear hRow Tr Kr
    obtain ⟨k, hk, rfl, rfl, hmx, Tr, Kr, hRow⟩ := hrel
    have HBr : Below w.heap.size w wr := HB1.trans (Kr.1.mono HB1.size)
    have hlo := Kr.size (Nat.le_refl _)
    by_cases hlt : k < R.length
    case neg =>
      obtain rfl : k = R.length := by omega
      have hlt' : ¬ (R.length : Int) < R.length := by omega
      rw [FR.out.done] at hmx ⊢
      clear hlt hk FR
      by_cases h5 : 65535 < s4.1.length
      · obtain ⟨rfl, rfl⟩ := RL.out h5
        have h5' : (65535 : Int) < s4.1.length := by omega
        clear RL RO
        go_wp2_with fail
        go_ret2
        exact RetB.mk rfl HBr
      · obtain ⟨rfl, rfl⟩ := RO.out h5
        have h5' : ¬ (65535 : Int) < s4.1.length := by omega
        clear RL RO
        go_wp2_with fail
        go_ret2
        exact RetB.mk rfl HBr
    have hlt' : (k : Int) < R.length := by omega
    have LN := FR.out.len k
    by_cases h5 : 65535 < ((R.take k).foldl putRec s1).1.length
    case pos =>
      obtain ⟨rfl, rfl⟩ := RL.out (Nat.lt_of_lt_of_le h5 LN)
      have h5' : (65535 : Int) < ((R.take k).foldl putRec s1).1.length := by omega
      have h5'' : ¬ (((R.take k).foldl putRec s1).1.length : Int) ≤ 65535 := by omega
      generalize ((R.take k).foldl putRec s1).1 = s at *
      clear RL RO LN
      go_wp2_with fail
      go_ret2
      exact RetB.mk rfl HBr
    have h5' : ¬ (65535 : Int) < ((R.take k).foldl putRec s1).1.length := by omega
    have h5'' : (((R.take k).foldl putRec s1).1.length : Int) ≤ 65535 := by omega
    clear LN
    obtain ⟨g, cur, hA, hB, hcl, hel⟩ := hRow (by omega)
    subst hA
    obtain ⟨ck, hrg, hRR⟩ := hel k hlt
    have ckl := hRR.len
    have hwf := hRR.wf
    have hk33 : k * 33 + 33 ≤ cur.length := by omega
    obtain ⟨An, cn, M0, hN⟩ : ∃ (An : Option Addr) (cn : Nat), ck[0]? = some (Value.slice An R[k].name.length cn) ∧ NmR w An cn R[k].name := by
      obtain ⟨An, cn, At, ct, Am, cm, rfl, hr, hN, _⟩ := hRR; exact ⟨An, cn, rfl, hN⟩
    have M1 : ck[1]? = some (.int .i64 R[k].ty) := by obtain ⟨_, _, _, _, _, _, rfl, hr, _⟩ := hRR; rfl
    have M2 : ck[2]? = some (.int .i64 R[k].cl) := by obtain ⟨_, _, _, _, _, _, rfl, hr, _⟩ := hRR; rfl
    have M3 : ck[3]? = some (.int .i64 R[k].ttl) := by obtain ⟨_, _, _, _, _, _, rfl, hr, _⟩ := hRR; rfl
    have cg : ∀ j, j < 33 → cur[k * 33 + j]? = ck[j]? := fun j hj => by rw [← hrg, List.getElem?_take_of_lt hj, List.getElem?_drop]
    have N0 : cur[k * 33]? = some (.slice An R[k].name.length cn) := (cg 0 (by omega)).trans M0
    have N1 : cur[k * 33 + 1]? = some (.int .i64 R[k].ty) := (cg 1 (by omega)).trans M1
    have N2 : cur[k * 33 + 2]? = some (.int .i64 R[k].cl) := (cg 2 (by omega)).trans M2
    have N3 : cur[k * 33 + 3]? = some (.int .i64 R[k].ttl) := (cg 3 (by omega)).trans M3
    clear cg M0 M1 M2 M3
    have ST := FR.out.step k hlt
    have FW := FR.out.few k
    have hck := RC.out k hlt
    have hsn := putRec_max (st := (R.take k).foldl putRec s1) (r := R[k]) (by omega) hwf hck
    have hdl := dataR_len hwf hck (recT ((R.take k).foldl putRec s1) R[k]) ((recS ((R.take k).foldl putRec s1) R[k]).length + 2)
    replace hdl : (recD ((R.take k).foldl putRec s1) R[k]).length ≤ 70000 := hdl
    have xl := putSO_len ((R.take k).foldl putRec s1).2 (((R.take k).foldl putRec s1).1.length : Int) R[k].name
    have l1 := putB_length 2 R[k].ty
    have l2 := putB_length 2 R[k].cl
    have l3 := putB_length 4 R[k].ttl
    have l4 := putB_length 2 ((recD ((R.take k).foldl putRec s1) R[k]).length : Int)
    have hfT : fewO (recT ((R.take k).foldl putRec s1) R[k]) 800000 := (FW.put _ _).mono (by omega)
    have hS : recS ((R.take k).foldl putRec s1) R[k] = ((R.take k).foldl putRec s1).1 ++ putSO ((R.take k).foldl putRec s1).2 (((R.take k).foldl putRec s1).1.length : Int) R[k].name ++ putB 2 R[k].ty ++ putB 2 R[k].cl ++ putB 4 R[k].ttl := rfl
    have hsl : (recS ((R.take k).foldl putRec s1) R[k]).length ≤ 70000 := by rw [hS]; simp only [List.length_append]; omega
    have PT : Hid (∀ w' : World, Below wr.heap.size wr w' → Calls Try.prog 25 #[.pointer p, .slice An R[k].name.length cn, .int .i64 (((R.take k).foldl putRec s1).1.length : Int)] w' (RPutO w1.heap.size p (putSO ((R.take k).foldl putRec s1).2 (((R.take k).foldl putRec s1).1.length : Int) R[k].name) (checkN R[k].name) (recT ((R.take k).foldl putRec s1) R[k]) w')) := Lib.hid (fun w' b => refputO_any w1.heap.size p ((R.take k).foldl putRec s1).2 An cn R[k].name (((R.take k).foldl putRec s1).1.length : Int) w w' HB1.size (below_then HBr HBr.size b) (Nat.le_trans hlo b.size) (Tr.below hlo b) hN (FW.mono (by omega)))
    have D := Lib.hid (fun w' (b : Below w.heap.size w w') (hlo' : w1.heap.size ≤ w'.heap.size) (hT' : RTabO w1.heap.size w' p (recT ((R.take k).foldl putRec s1) R[k])) => refput13_any w1.heap.size ck R[k] ((recS ((R.take k).foldl putRec s1) R[k]).length + 2) p (recT ((R.take k).foldl putRec s1) R[k]) w w' hRR HB1.size b hlo' hT' hfT (by omega) (by omega))
    have er1 : rputS (recT ((R.take k).foldl putRec s1) R[k]) ((recS ((R.take k).foldl putRec s1) R[k]).length + 2) R[k] = recD ((R.take k).foldl putRec s1) R[k] := by unfold rputS; rw [if_pos hck]; rfl
    have er2 : rputT (recT ((R.take k).foldl putRec s1) R[k]) ((recS ((R.take k).foldl putRec s1) R[k]).length + 2) R[k] = (putRec ((R.take k).foldl putRec s1) R[k]).2 := by unfold rputT; rw [if_pos hck]; rfl
    rw [er1, er2, hck] at D
    have S1 : ((R.take (k + 1)).foldl putRec s1).1 = recS ((R.take k).foldl putRec s1) R[k] ++ putB 2 (recD ((R.take k).foldl putRec s1) R[k]).length ++ recD ((R.take k).foldl putRec s1) R[k] := congrArg Prod.fst ST
    have S2 : ((R.take (k + 1)).foldl putRec s1).2 = (putRec ((R.take k).foldl putRec s1) R[k]).2 := congrArg Prod.snd ST
    have S3 : ((R.take (k + 1)).foldl putRec s1).1.length ≤ 10000000 := by rw [ST]; exact hsn
    have S1' := Lib.hid S1
    have S2' := Lib.hid S2
    have S3' := Lib.hid S3
    have Q1 := Lib.hid (fun w => refput2_any R[k].ty w)
    have Q2 := Lib.hid (fun w => refput2_any R[k].cl w)
    have Q3 := Lib.hid (fun w => refput4_any R[k].ttl w)
    have Q4 := Lib.hid (fun w => refput2_any ((recD ((R.take k).foldl putRec s1) R[k]).length : Int) w)
    have HS := Lib.hid hS
    clear S1 S2 S3 er1 er2 hfT hwf hck hRR hN hel ST FW hsn hS
    generalize (putRec ((R.take k).foldl putRec s1) (R[k]'hlt)).2 = T2 at *
    generalize recT ((R.take k).foldl putRec s1) (R[k]'hlt) = T1 at *
    generalize putB 2 ((recD ((R.take k).foldl putRec s1) (R[k]'hlt)).length : Int) = y4 at *
    generalize recD ((R.take k).foldl putRec s1) (R[k]'hlt) = d at *
    generalize recS ((R.take k).foldl putRec s1) (R[k]'hlt) = sr at *
    generalize putSO ((R.take k).foldl putRec s1).2 (((R.take k).foldl putRec s1).1.length : Int) (R[k]'hlt).name = x at *
    generalize ((R.take k).foldl putRec s1).2 = T0 at *
    generalize ((R.take k).foldl putRec s1).1 = s at *
    generalize putB 2 (R[k]'hlt).ty = y1 at *
    generalize putB 2 (R[k]'hlt).cl = y2 at *
    generalize putB 4 (R[k]'hlt).ttl = y3 at *
    generalize checkN (R[k]'hlt).name = e at *
    generalize (R[k]'hlt).name.length = nl at *
    generalize (R[k]'hlt).ty = ty at *
    generalize (R[k]'hlt).cl = cl at *
    generalize (R[k]'hlt).ttl = ttl at *
    have c0 := hB.cell_ (k * 33) N0
    go_wp2_with fail
    refine (PT.out _ (Below.refl _ _)).mono ?_
    rintro _ w4 ⟨rfl, T4, K4⟩
    have B4 := K4.blk hB
    have R4 := rowR_keep hRow K4
    have K4' := Kr.trans K4
    have hlo4 := K4'.size (Nat.le_refl _)
    clear PT K4 Tr Kr HBr hlo hB hRow c0 N0
    go_wp2_with fail
    refine wp_region_old (by kernel_rfl) (by kernel_rfl) ?_
    (refine wpQuiet_val (v := (.string (bs s))) rfl (fun W hW => by first | (go_simp; done) | (go_simp; omega)) ?_; simp only [Act.put, List.setIfInBounds_toArray, List.set_cons_zero, List.set_cons_succ])
    (refine wpQuiet_val (v := (.string (bs x))) rfl (fun W hW => by first | (go_simp; done) | (go_simp; omega)) ?_; simp only [Act.put, List.setIfInBounds_toArray, List.set_cons_zero, List.set_cons_succ])
    (refine wpQuiet_val (v := (.string (bs (s ++ x)))) rfl (fun W hW => by first | (go_simp; done) | (go_simp; omega)) ?_; simp only [Act.put, List.setIfInBounds_toArray, List.set_cons_zero, List.set_cons_succ])
    (refine wpQuiet_val (v := (.slice (some ⟨g, 0, none⟩) R.length c)) rfl (fun W hW => by first | (go_simp; done) | (go_simp; omega)) ?_; simp only [Act.put, List.setIfInBounds_toArray, List.set_cons_zero, List.set_cons_succ])
    (refine wpQuiet_val (v := (.int .i64 k)) rfl (fun W hW => by first | (go_simp; done) | (go_simp; omega)) ?_; simp only [Act.put, List.setIfInBounds_toArray, List.set_cons_zero, List.set_cons_succ])
    (refine wpQuiet_val (v := (.pointer (some ⟨g, k * 33, none⟩))) rfl (fun W hW => by first | (go_simp; done) | (go_simp; omega)) ?_; simp only [Act.put, List.setIfInBounds_toArray, List.set_cons_zero, List.set_cons_succ])
    (refine wpQuiet_val (v := (.pointer (some ⟨g, k * 33 + 1, none⟩))) rfl (fun W hW => by first | (go_simp; done) | (go_simp; omega)) ?_; simp only [Act.put, List.setIfInBounds_toArray, List.set_cons_zero, List.set_cons_succ])
    refine wpQuiet_ld 3 (.tmp 110) rfl ⟨g, k * 33 + 1, none⟩ rfl rfl (fun W hW => run_load1 Try.underlying3 rfl ((B4.below hW B4.lt).cell_ (k * 33 + 1) N1)) ?_
    simp only [Act.put, List.setIfInBounds_toArray, List.set_cons_zero, List.set_cons_succ]
    refine wpQuiet_call 65 #[.int .i64 2, .int .i64 ty] rfl (fun W => by go_simp) (fun W hW => RetB.old hW (Q1.out W)) ?_
    simp only [Act.put, List.setIfInBounds_toArray, List.set_cons_zero, List.set_cons_succ]
    (refine wpQuiet_val (v := (.string (bs (s ++ x ++ y1)))) rfl (fun W hW => by first | (go_simp; done) | (go_simp; omega)) ?_; simp only [Act.put, List.setIfInBounds_toArray, List.set_cons_zero, List.set_cons_succ])
    (refine wpQuiet_val (v := (.slice (some ⟨g, 0, none⟩) R.length c)) rfl (fun W hW => by first | (go_simp; done) | (go_simp; omega)) ?_; simp only [Act.put, List.setIfInBounds_toArray, List.set_cons_zero, List.set_cons_succ])
    (refine wpQuiet_val (v := (.int .i64 k)) rfl (fun W hW => by first | (go_simp; done) | (go_simp; omega)) ?_; simp only [Act.put, List.setIfInBounds_toArray, List.set_cons_zero, List.set_cons_succ])
    (refine wpQuiet_val (v := (.pointer (some ⟨g, k * 33, none⟩))) rfl (fun W hW => by first | (go_simp; done) | (go_simp; omega)) ?_; simp only [Act.put, List.setIfInBounds_toArray, List.set_cons_zero, List.set_cons_succ])
    (refine wpQuiet_val (v := (.pointer (some ⟨g, k * 33 + 2, none⟩))) rfl (fun W hW => by first | (go_simp; done) | (go_simp; omega)) ?_; simp only [Act.put, List.setIfInBounds_toArray, List.set_cons_zero, List.set_cons_succ])
    refine wpQuiet_ld 3 (.tmp 117) rfl ⟨g, k * 33 + 2, none⟩ rfl rfl (fun W hW => run_load1 Try.underlying3 rfl ((B4.below hW B4.lt).cell_ (k * 33 + 2) N2)) ?_
    simp only [Act.put, List.setIfInBounds_toArray, List.set_cons_zero, List.set_cons_succ]
    refine wpQuiet_call 65 #[.int .i64 2, .int .i64 cl] rfl (fun W => by go_simp) (fun W hW => RetB.old hW (Q2.out W)) ?_
    simp only [Act.put, List.setIfInBounds_toArray, List.set_cons_zero, List.set_cons_succ]
    (refine wpQuiet_val (v := (.string (bs (s ++ x ++ y1 ++ y2)))) rfl (fun W hW => by first | (go_simp; done) | (go_simp; omega)) ?_; simp only [Act.put, List.setIfInBounds_toArray, List.set_cons_zero, List.set_cons_succ])
    (refine wpQuiet_val (v := (.slice (some ⟨g, 0, none⟩) R.length c)) rfl (fun W hW => by first | (go_simp; done) | (go_simp; omega)) ?_; simp only [Act.put, List.setIfInBounds_toArray, List.set_cons_zero, List.set_cons_succ])
    (refine wpQuiet_val (v := (.int .i64 k)) rfl (fun W hW => by first | (go_simp; done) | (go_simp; omega)) ?_; simp only [Act.put, List.setIfInBounds_toArray, List.set_cons_zero, List.set_cons_succ])
    (refine wpQuiet_val (v := (.pointer (some ⟨g, k * 33, none⟩))) rfl (fun W hW => by first | (go_simp; done) | (go_simp; omega)) ?_; simp only [Act.put, List.setIfInBounds_toArray, List.set_cons_zero, List.set_cons_succ])
    (refine wpQuiet_val (v := (.pointer (some ⟨g, k * 33 + 3, none⟩))) rfl (fun W hW => by first | (go_simp; done) | (go_simp; omega)) ?_; simp only [Act.put, List.setIfInBounds_toArray, List.set_cons_zero, List.set_cons_succ])
    refine wpQuiet_ld 3 (.tmp 124) rfl ⟨g, k * 33 + 3, none⟩ rfl rfl (fun W hW => run_load1 Try.underlying3 rfl ((B4.below hW B4.lt).cell_ (k * 33 + 3) N3)) ?_
    simp only [Act.put, List.setIfInBounds_toArray, List.set_cons_zero, List.set_cons_succ]
    refine wpQuiet_call 65 #[.int .i64 4, .int .i64 ttl] rfl (fun W => by go_simp) (fun W hW => RetB.old hW (Q3.out W)) ?_
    simp only [Act.put, List.setIfInBounds_toArray, List.set_cons_zero, List.set_cons_succ]
    (refine wpQuiet_val (v := (.string (bs (s ++ x ++ y1 ++ y2 ++ y3)))) rfl (fun W hW => by first | (go_simp; done) | (go_simp; omega)) ?_; simp only [Act.put, List.setIfInBounds_toArray, List.set_cons_zero, List.set_cons_succ])
    (refine wpQuiet_val (v := (.string (bs (s ++ x ++ y1 ++ y2 ++ y3)))) rfl (fun W hW => by first | (go_simp; done) | (go_simp; omega)) ?_; simp only [Act.put, List.setIfInBounds_toArray, List.set_cons_zero, List.set_cons_succ])
    refine wpQuiet_nil ?_
    intro w5 b5
    rw [← HS.out]
    have T5 := T4.below hlo4 b5
    have K5 := K4'.trans (KeepR.old b5 hlo4)
    have B5 := B4.below b5 B4.lt
    have R5 := rowR_keep R4 (KeepR.old b5 hlo4)
    have hlo5 := K5.size (Nat.le_refl _)
    have HB5 : Below w.heap.size w w5 := HB1.trans (K5.1.mono HB1.size)
    clear T4 K4' b5 B4 R4 Q1 Q2 Q3 N1 N2 N3 hlo4
    go_wp2_with (refine at_op (.load 86 (.tmp 131)) rfl ?_; go_must (refine wpList_ldB rfl 86 (.tmp 131) rfl g (k * 33) (by first | rfl | (show Value.pointer _ = _; simp)) B5 33 hk33 _ Try.underlying86 rfl rrInfo ck hrg ?_))
    refine (D.out _ HB5 hlo5 T5).mono ?_
    rintro _ w6 ⟨rfl, T6, K6⟩
    have K6' := K5.trans K6
    have R6 := rowR_keep R5 K6
    have hlo6 := K6'.size (Nat.le_refl _)
    clear D T5 K5 R5 B5 HB5 K6 hlo5
    go_wp2_with fail
    refine (Q4.out _).mono ?_
    rintro _ w7 ⟨rfl, b7⟩
    have T7 := T6.below hlo6 b7
    have K7 := K6'.trans (KeepR.old b7 hlo6)
    have R7 := rowR_keep R6 (KeepR.old b7 hlo6)
    clear T6 K6' R6 b7 Q4
    go_wp2_with fail
    go_roundw
    case rel => exact ⟨k + 1, by omega, by go_num, by rw [S1'.out, List.append_assoc], S3'.out, by rw [S2'.out]; exact T7, K7, R7⟩
    case measure => simp [intOf]; omega
theorem mencode_any (cs : List Value) (m : Msg) (pack : Bool) (Aq Aa Au Ae : Option Addr) (cq ca cu ce : Nat) (w : World) (h : MsgIs w cs m Aq Aa Au Ae cq ca cu ce) (hq : m.qs.length ≤ 700) (hr : m.rrs.length ≤ 400) :
    Calls Try.prog 29 #[.agg cs.toArray, .bool pack] w (RetB (.tuple #[.string (bs (encM m pack).1), .int .i64 (encM m pack).2]) w) := by
  by_cases hc : checkM m = 0
  · exact mencode_good cs m pack Aq Aa Au Ae cq ca cu ce w h hc hq hr
  · rw [encM_bad pack hc]
    exact mencode_bad cs m pack Aq Aa Au Ae cq ca cu ce w h hc
theorem refmencode_any (cs : List Value) (m : Msg) (pack : Bool) (Aq Aa Au Ae : Option Addr) (cq ca cu ce : Nat) (w : World) (h : MsgIs w cs m Aq Aa Au Ae cq ca cu ce) (hq : m.qs.length ≤ 100) (hr : m.rrs.length ≤ 200) :
    Calls Try.prog 30 #[.agg cs.toArray, .bool pack] w (RetB (.tuple #[.string (bs (encM m pack).1), .int .i64 (encM m pack).2]) w) := by
  by_cases hc : checkM m = 0
  · exact refmencode_good cs m pack Aq Aa Au Ae cq ca cu ce w h hc hq hr
  · rw [encM_bad pack hc]
    exact refmencode_bad cs m pack Aq Aa Au Ae cq ca cu ce w h hc
end Go.Proofs.Ytlmgdogblbigpaa
