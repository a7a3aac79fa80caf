/-
  Layer 14, the laws' own: Small, works; MessageWrites.
-/
import Derived.Test.YtlmgdogblbigpaaMf
import Derived.Test.YtlmgdogblbigpaaSm13
namespace Go.Proofs.Ytlmgdogblbigpaa
open Go.RowKit
set_option maxRecDepth 100000
set_option linter.unusedVariables false
set_option linter.unusedSimpArgs false

/-- What Small tells. -/
def SmallRet (m : Msg) (w : World) (e : Ending) (w' : World) : Prop := ∃ n : Int, e = .returned (.int .i64 n) ∧ (n = 0 ∨ n = 1) ∧ (n = 0 → m.qs.length ≤ 20 ∧ m.an.length ≤ 30 ∧ m.au.length ≤ 20 ∧ m.ex.length ≤ 20) ∧ Below w.heap.size w w'
set_option maxHeartbeats 4000000 in
theorem small14_any (cs : List Value) (m : Msg) (Aq Aa Au Ae : Option Addr) (cq ca cu ce : Nat) (w : World) (h : MsgIs w cs m Aq Aa Au Ae cq ca cu ce) :
    Calls Try.prog 27 #[.agg cs.toArray] w (SmallRet m w) := by
  have hcs := h.hcs
  have hl : cs.length = 14 := by rw [hcs]; exact msgC_len _ _ _ _ _
  have L10 : cs[10]? = some (.slice Aq m.qs.length cq) := by rw [hcs]; rfl
  have L11 : cs[11]? = some (.slice Aa m.an.length ca) := by rw [hcs]; rfl
  have L12 : cs[12]? = some (.slice Au m.au.length cu) := by rw [hcs]; rfl
  have L13 : cs[13]? = some (.slice Ae m.ex.length ce) := by rw [hcs]; rfl
  have lq := h.lq
  have la := h.la
  have lu := h.lu
  have le := h.le
  have hq := h.hq
  have ha := h.ha
  have hu := h.hu
  have he := h.he
  unfold SmallRet
  clear h hcs
  generalize m.qs = Q at *
  generalize m.an = LA at *
  generalize m.au = LU at *
  generalize m.ex = LE at *
  have B1 := Blk.new w 52 cs
  have HB1 : Below w.heap.size w (w.alloc (.cells cs.toArray 52)) := (Below.refl _ _).alloc (Nat.le_refl _) _
  have c10 := B1.cell_ 10 L10
  have c11 := B1.cell_ 11 L11
  have c12 := B1.cell_ 12 L12
  have c13 := B1.cell_ 13 L13
  by_cases h1 : 20 < Q.length
  case pos =>
    have h1' : (20 : Int) < Q.length := by omega
    clear h1
    go_enter Try.func27, Try.ntmps27
    go_wp2_with fail
    go_ret
    exact ⟨1, rfl, .inr rfl, fun h => absurd h (by decide), HB1⟩
  have h1' : ¬ (20 : Int) < Q.length := by omega
  by_cases h2 : 30 < LA.length
  case pos =>
    have h2' : (30 : Int) < LA.length := by omega
    clear h1 h2
    go_enter Try.func27, Try.ntmps27
    go_wp2_with fail
    go_ret
    exact ⟨1, rfl, .inr rfl, fun h => absurd h (by decide), HB1⟩
  have h2' : ¬ (30 : Int) < LA.length := by omega
  by_cases h3 : 20 < LU.length
  case pos =>
    have h3' : (20 : Int) < LU.length := by omega
    clear h1 h2 h3
    go_enter Try.func27, Try.ntmps27
    go_wp2_with fail
    go_ret
    exact ⟨1, rfl, .inr rfl, fun h => absurd h (by decide), HB1⟩
  have h3' : ¬ (20 : Int) < LU.length := by omega
  by_cases h4 : 20 < LE.length
  case pos =>
    have h4' : (20 : Int) < LE.length := by omega
    clear h1 h2 h3 h4
    go_enter Try.func27, Try.ntmps27
    go_wp2_with fail
    go_ret
    exact ⟨1, rfl, .inr rfl, fun h => absurd h (by decide), HB1⟩
  have h4' : ¬ (20 : Int) < LE.length := by omega
  have FIN : Q.length ≤ 20 ∧ LA.length ≤ 30 ∧ LU.length ≤ 20 ∧ LE.length ≤ 20 := ⟨by omega, by omega, by omega, by omega⟩
  have FN := Lib.hid FIN
  clear FIN h1 h2 h3 h4
  go_enter Try.func27, Try.ntmps27
  go_wp2_with fail
  obtain ⟨w1, hw1⟩ : ∃ w1, w1 = w.alloc (.cells cs.toArray 52) := ⟨_, rfl⟩
  rw [← hw1] at B1 HB1 ⊢
  clear hw1 c10 c11 c12 c13
  have hb : Below w1.heap.size w1 w1 := Below.refl _ _
  have cc := B1.cell_ 10 L10
  go_loopw [3] (fun iv wr => ∃ k : Nat, k ≤ Q.length ∧ iv = .int .i64 k ∧ Below w1.heap.size w1 wr) (fun iv _ => Q.length - (intOf iv).toNat)
  case atStart => exact ⟨0, Nat.zero_le _, rfl, hb⟩
  clear hb cc
  obtain ⟨k, hk, rfl, hb⟩ := hrel
  have Br := B1.below hb B1.lt
  have cc := Br.cell_ 10 L10
  by_cases hlt : k < Q.length
  case pos =>
    have hlt' : (k : Int) < Q.length := by omega
    have HBr := below_then HB1 HB1.size hb
    obtain ⟨ba, oa, hA, hba, hel⟩ := hq (by omega)
    subst hA
    obtain ⟨An, cn, hrg, hN⟩ := hel k hlt
    have hRk := range_below hrg HBr hba
    have c0 : wr.cell? ⟨ba, oa + k * 3, none⟩ = some (.slice An Q[k].name.length cn) := hRk 0 _ rfl
    have CK := Lib.hid (fewN_any An cn Q[k].name wr (hN.below HBr))
    clear hel hrg hN hRk
    generalize decide (lsum (Q[k]'hlt).name ≤ 400) = b at *
    generalize (Q[k]'hlt).name.length = nl at *
    go_wp2_with fail
    refine CK.out.mono ?_
    rintro _ w4 ⟨rfl, rfl⟩
    cases b with
    | false =>
      go_wp2_with fail
      go_ret
      exact ⟨1, rfl, .inr rfl, fun h => absurd h (by decide), HBr⟩
    | true =>
      go_wp2_with fail
      go_roundw
      case rel => exact ⟨k + 1, by omega, by go_num, hb⟩
      case measure => simp [intOf]; omega
  obtain rfl : k = Q.length := by omega
  have hlt' : ¬ (Q.length : Int) < Q.length := by omega
  clear hlt hk hq
  go_wp2_with fail
  go_loopw [4] (fun iv wr => ∃ k : Nat, k ≤ LA.length ∧ iv = .int .i64 k ∧ Below w1.heap.size w1 wr) (fun iv _ => LA.length - (intOf iv).toNat)
  case atStart => exact ⟨0, Nat.zero_le _, rfl, hb⟩
  clear hb cc
  obtain ⟨k, hk, rfl, hb⟩ := hrel
  have Br := B1.below hb B1.lt
  have cc := Br.cell_ 11 L11
  by_cases hlt : k < LA.length
  case pos =>
    have hlt' : (k : Int) < LA.length := by omega
    have HBr := below_then HB1 HB1.size hb
    obtain ⟨ba, oa, hA, hba, hel⟩ := ha (by omega)
    subst hA
    obtain ⟨ck, hrg, hRR⟩ := hel k hlt
    have hRk := range_below hrg HBr hba
    have ckl := hRR.len
    have CK := Lib.hid (fun w' (b : Below w.heap.size w w') => small13_any ck LA[k] w' (hRR.below b))
    clear hel hrg hRR
    go_wp2_with (refine at_op (.load 86 (.tmp 54)) rfl ?_; go_must (refine wpList_ldR rfl 86 (.tmp 54) rfl ba (oa + k * 33) rfl ck hRk _ Try.underlying86 rfl (by rw [ckl]; exact rrInfo) ?_))
    refine (CK.out _ HBr).mono ?_
    rintro _ w4 ⟨b, rfl, b4⟩
    have HB4 := below_then HBr HBr.size b4
    have hb4 := below_then hb hb.size b4
    clear CK b4 HBr hb hRk cc Br
    cases b with
    | false =>
      go_wp2_with fail
      go_ret
      exact ⟨1, rfl, .inr rfl, fun h => absurd h (by decide), HB4⟩
    | true =>
      go_wp2_with fail
      go_roundw
      case rel => exact ⟨k + 1, by omega, by go_num, hb4⟩
      case measure => simp [intOf]; omega
  obtain rfl : k = LA.length := by omega
  have hlt' : ¬ (LA.length : Int) < LA.length := by omega
  clear hlt hk ha
  go_wp2_with fail
  go_loopw [5] (fun iv wr => ∃ k : Nat, k ≤ LU.length ∧ iv = .int .i64 k ∧ Below w1.heap.size w1 wr) (fun iv _ => LU.length - (intOf iv).toNat)
  case atStart => exact ⟨0, Nat.zero_le _, rfl, hb⟩
  clear hb cc
  obtain ⟨k, hk, rfl, hb⟩ := hrel
  have Br := B1.below hb B1.lt
  have cc := Br.cell_ 12 L12
  by_cases hlt : k < LU.length
  case pos =>
    have hlt' : (k : Int) < LU.length := by omega
    have HBr := below_then HB1 HB1.size hb
    obtain ⟨ba, oa, hA, hba, hel⟩ := hu (by omega)
    subst hA
    obtain ⟨ck, hrg, hRR⟩ := hel k hlt
    have hRk := range_below hrg HBr hba
    have ckl := hRR.len
    have CK := Lib.hid (fun w' (b : Below w.heap.size w w') => small13_any ck LU[k] w' (hRR.below b))
    clear hel hrg hRR
    go_wp2_with (refine at_op (.load 86 (.tmp 68)) rfl ?_; go_must (refine wpList_ldR rfl 86 (.tmp 68) rfl ba (oa + k * 33) rfl ck hRk _ Try.underlying86 rfl (by rw [ckl]; exact rrInfo) ?_))
    refine (CK.out _ HBr).mono ?_
    rintro _ w4 ⟨b, rfl, b4⟩
    have HB4 := below_then HBr HBr.size b4
    have hb4 := below_then hb hb.size b4
    clear CK b4 HBr hb hRk cc Br
    cases b with
    | false =>
      go_wp2_with fail
      go_ret
      exact ⟨1, rfl, .inr rfl, fun h => absurd h (by decide), HB4⟩
    | true =>
      go_wp2_with fail
      go_roundw
      case rel => exact ⟨k + 1, by omega, by go_num, hb4⟩
      case measure => simp [intOf]; omega
  obtain rfl : k = LU.length := by omega
  have hlt' : ¬ (LU.length : Int) < LU.length := by omega
  clear hlt hk hu
  go_wp2_with fail
  go_loopw [6] (fun iv wr => ∃ k : Nat, k ≤ LE.length ∧ iv = .int .i64 k ∧ Below w1.heap.size w1 wr) (fun iv _ => LE.length - (intOf iv).toNat)
  case atStart => exact ⟨0, Nat.zero_le _, rfl, hb⟩
  clear hb cc
  obtain ⟨k, hk, rfl, hb⟩ := hrel
  have Br := B1.below hb B1.lt
  have cc := Br.cell_ 13 L13
  by_cases hlt : k < LE.length
  case pos =>
    have hlt' : (k : Int) < LE.length := by omega
    have HBr := below_then HB1 HB1.size hb
    obtain ⟨ba, oa, hA, hba, hel⟩ := he (by omega)
    subst hA
    obtain ⟨ck, hrg, hRR⟩ := hel k hlt
    have hRk := range_below hrg HBr hba
    have ckl := hRR.len
    have CK := Lib.hid (fun w' (b : Below w.heap.size w w') => small13_any ck LE[k] w' (hRR.below b))
    clear hel hrg hRR
    go_wp2_with (refine at_op (.load 86 (.tmp 82)) rfl ?_; go_must (refine wpList_ldR rfl 86 (.tmp 82) rfl ba (oa + k * 33) rfl ck hRk _ Try.underlying86 rfl (by rw [ckl]; exact rrInfo) ?_))
    refine (CK.out _ HBr).mono ?_
    rintro _ w4 ⟨b, rfl, b4⟩
    have HB4 := below_then HBr HBr.size b4
    have hb4 := below_then hb hb.size b4
    clear CK b4 HBr hb hRk cc Br
    cases b with
    | false =>
      go_wp2_with fail
      go_ret
      exact ⟨1, rfl, .inr rfl, fun h => absurd h (by decide), HB4⟩
    | true =>
      go_wp2_with fail
      go_roundw
      case rel => exact ⟨k + 1, by omega, by go_num, hb4⟩
      case measure => simp [intOf]; omega
  obtain rfl : k = LE.length := by omega
  have hlt' : ¬ (LE.length : Int) < LE.length := by omega
  clear hlt hk he
  have HBr := below_then HB1 HB1.size hb
  go_wp2_with fail
  go_ret
  exact ⟨0, rfl, .inl rfl, fun _ => FN.out, HBr⟩
end Go.Proofs.Ytlmgdogblbigpaa
/-
  Layer 14, the laws' own: works; MessageWrites.
-/
namespace Go.Proofs.Ytlmgdogblbigpaa
open Go.RowKit
set_option maxRecDepth 100000
set_option linter.unusedVariables false
set_option linter.unusedSimpArgs false

def m14 : Msg := ⟨Hd.zero, [⟨[[97], [98]], 1, 1⟩], [], [], []⟩
theorem enc_m14 : encM m14 true = ([0, 0, 0, 0, 0, 1, 0, 0, 0, 0, 0, 0, 1, 97, 1, 98, 0, 0, 1, 0, 1], 0) := by kernel_rfl
theorem m14_is (w : World) : MsgIs ((w.alloc (.cells #[.string ⟨#[97]⟩, .string ⟨#[98]⟩] 9)).alloc (.cells #[.slice (some ⟨w.heap.size, 0, none⟩) 2 2, .int .i64 1, .int .i64 1] 61)) (msgC Hd.zero (.slice (some ⟨w.heap.size + 1, 0, none⟩) 1 1) (.slice none 0 0) (.slice none 0 0) (.slice none 0 0)) m14 (some ⟨w.heap.size + 1, 0, none⟩) none none none 1 0 0 0 := by
  have B0 := (Blk.new w 9 [.string ⟨#[97]⟩, .string ⟨#[98]⟩]).alloc (.cells #[.slice (some ⟨w.heap.size, 0, none⟩) 2 2, .int .i64 1, .int .i64 1] 61)
  have B1 := Blk.new' (w.alloc (.cells #[.string ⟨#[97]⟩, .string ⟨#[98]⟩] 9)) 61 [.slice (some ⟨w.heap.size, 0, none⟩) 2 2, .int .i64 1, .int .i64 1] (w.heap.size + 1) (by simp)
  refine ⟨rfl, fun _ => ⟨w.heap.size + 1, 0, rfl, B1.lt, fun i hi => ?_⟩, fun h => absurd h (by decide), fun h => absurd h (by decide), fun h => absurd h (by decide), by decide, by decide, by decide, by decide⟩
  obtain rfl : i = 0 := by simp [m14] at hi; omega
  refine ⟨some ⟨w.heap.size, 0, none⟩, 2, ?_, fun _ => ⟨w.heap.size, 0, rfl, B0.lt, fun j hj => ?_⟩, by show ([[97], [98]] : List (List UInt8)).length ≤ 2; decide, by show ([[97], [98]] : List (List UInt8)).length ≤ 17592186044416; decide, by
    intro l hl
    simp [m14] at hl
    rcases hl with rfl | rfl <;> simp⟩
  · exact B1.range 0 3 (by simp)
  · match j, hj with
    | 0, _ => exact B0.cell_ 0 rfl
    | 1, _ => exact B0.cell_ 1 rfl
theorem works14_any (w : World) : Calls Try.prog 28 #[] w (RetB (.bool true) w) := by
  have C := Lib.hid (mencode_any _ m14 true _ _ _ _ _ _ _ _ _ (m14_is w) (by decide) (by decide))
  rw [enc_m14] at C
  have hB : Below w.heap.size w ((w.alloc (.cells #[.string ⟨#[97]⟩, .string ⟨#[98]⟩] 9)).alloc (.cells #[.slice (some ⟨w.heap.size, 0, none⟩) 2 2, .int .i64 1, .int .i64 1] 61)) := ((Below.refl _ _).alloc (Nat.le_refl _) _).alloc (by simp) _
  go_enter Try.func28, Try.ntmps28
  go_wp2_with fail
  refine C.out.mono ?_
  rintro _ w1 ⟨rfl, b1⟩
  have HB := below_then hB hB.size b1
  clear C hB b1
  go_wp2_with fail
  go_ret
  exact RetB.mk rfl HB
set_option maxHeartbeats 2000000 in
theorem messageWrites_any (cs : List Value) (m : Msg) (pack : Bool) (Aq Aa Au Ae : Option Addr) (cq ca cu ce : Nat) (w : World) (h : MsgIs w cs m Aq Aa Au Ae cq ca cu ce) :
    Calls Try.prog 6 #[.agg cs.toArray, .bool pack] w (RetB (.bool true) w) := by
  have hl : cs.length = 14 := by rw [h.hcs]; exact msgC_len _ _ _ _ _
  have SM := Lib.hid (fun w' (b : Below w.heap.size w w') => small14_any cs m Aq Aa Au Ae cq ca cu ce w' (h.below b))
  have E1 := Lib.hid (fun w' (b : Below w.heap.size w w') => mencode_any cs m pack Aq Aa Au Ae cq ca cu ce w' (h.below b))
  have E2 := Lib.hid (fun w' (b : Below w.heap.size w w') => refmencode_any cs m pack Aq Aa Au Ae cq ca cu ce w' (h.below b))
  have C1 := Lib.hid (fun w' (b : Below w.heap.size w w') => mcheck_any cs m Aq Aa Au Ae cq ca cu ce w' (h.below b))
  have C2 := Lib.hid (fun w' (b : Below w.heap.size w w') => refmcheck_any cs m Aq Aa Au Ae cq ca cu ce w' (h.below b))
  have hrl : m.rrs.length = m.an.length + m.au.length + m.ex.length := by simp [Msg.rrs]; omega
  unfold SmallRet at SM
  clear h
  generalize (encM m pack).1 = o1 at *
  generalize (encM m pack).2 = o2 at *
  generalize checkM m = ec at *
  generalize m.qs.length = nq at *
  generalize m.rrs.length = nr at *
  generalize m.an.length = na at *
  generalize m.au.length = nu at *
  generalize m.ex.length = ne at *
  have B0 := Blk.new w 52 cs
  have HB0 : Below w.heap.size w (w.alloc (.cells cs.toArray 52)) := (Below.refl _ _).alloc (Nat.le_refl _) _
  go_enter Try.func6, Try.ntmps6
  go_wp2_with (refine at_op (.load 52 (.tmp 2)) rfl ?_; go_must (refine wpList_ldB rfl 52 (.tmp 2) rfl w.heap.size 0 rfl B0 14 (by omega) _ Try.underlying52 rfl msgInfo cs (by rw [List.drop_zero, List.take_of_length_le (by omega)]) ?_))
  refine (SM.out _ HB0).mono ?_
  rintro _ w1 ⟨n, rfl, h01, hsm, b1⟩
  have B1 := B0.below b1 B0.lt
  have HB1 := below_then HB0 HB0.size b1
  clear B0 HB0 b1 SM
  rcases h01 with rfl | rfl
  case inr =>
    clear hsm hrl E1 E2 C1 C2
    go_wp2_with fail
    refine (works14_any _).mono ?_
    rintro _ w2 ⟨rfl, b2⟩
    have HB2 := below_then HB1 HB1.size b2
    clear b2
    go_wp2_with fail
    go_ret
    exact RetB.mk rfl HB2
  obtain ⟨s1, s2, s3, s4⟩ := hsm rfl
  replace E1 := Lib.hid (fun w' b => E1.out w' b (by omega) (by omega))
  replace E2 := Lib.hid (fun w' b => E2.out w' b (by omega) (by omega))
  clear hsm hrl s1 s2 s3 s4
  go_wp2_with (refine at_op (.load 52 (.tmp 2)) rfl ?_; go_must (refine wpList_ldB rfl 52 (.tmp 2) rfl w.heap.size 0 rfl B1 14 (by omega) _ Try.underlying52 rfl msgInfo cs (by rw [List.drop_zero, List.take_of_length_le (by omega)]) ?_))
  refine (E1.out _ HB1).mono ?_
  rintro _ w2 ⟨rfl, b2⟩
  have B2 := B1.below b2 B1.lt
  have HB2 := below_then HB1 HB1.size b2
  clear B1 HB1 b2 E1
  go_wp2_with (refine at_op (.load 52 (.tmp 2)) rfl ?_; go_must (refine wpList_ldB rfl 52 (.tmp 2) rfl w.heap.size 0 rfl B2 14 (by omega) _ Try.underlying52 rfl msgInfo cs (by rw [List.drop_zero, List.take_of_length_le (by omega)]) ?_))
  refine (E2.out _ HB2).mono ?_
  rintro _ w3 ⟨rfl, b3⟩
  have B3 := B2.below b3 B2.lt
  have HB3 := below_then HB2 HB2.size b3
  clear B2 HB2 b3 E2
  go_wp2_with fail
  refine wp_region_old (by kernel_rfl) (by kernel_rfl) ?_
  refine wpQuiet_call 28 #[] rfl (fun W => by go_simp) (fun W hW => RetB.old hW (works14_any W)) ?_
  simp only [Act.put, List.setIfInBounds_toArray, List.set_cons_zero, List.set_cons_succ]
  (refine wpQuiet_val (v := (.bool true)) rfl (fun W hW => by first | (go_simp; done) | (go_simp; omega)) ?_; simp only [Act.put, List.setIfInBounds_toArray, List.set_cons_zero, List.set_cons_succ])
  (refine wpQuiet_val (v := (.string (bs o1))) rfl (fun W hW => by first | (go_simp; done) | (go_simp; omega)) ?_; simp only [Act.put, List.setIfInBounds_toArray, List.set_cons_zero, List.set_cons_succ])
  (refine wpQuiet_val (v := (.string (bs o1))) rfl (fun W hW => by first | (go_simp; done) | (go_simp; omega)) ?_; simp only [Act.put, List.setIfInBounds_toArray, List.set_cons_zero, List.set_cons_succ])
  (refine wpQuiet_val (v := (.bool true)) rfl (fun W hW => by first | (go_simp; done) | (go_simp; omega)) ?_; simp only [Act.put, List.setIfInBounds_toArray, List.set_cons_zero, List.set_cons_succ])
  (refine wpQuiet_val (v := (.bool true)) rfl (fun W hW => by first | (go_simp; done) | (go_simp; omega)) ?_; simp only [Act.put, List.setIfInBounds_toArray, List.set_cons_zero, List.set_cons_succ])
  (refine wpQuiet_val (v := (.bool true)) rfl (fun W hW => by first | (go_simp; done) | (go_simp; omega)) ?_; simp only [Act.put, List.setIfInBounds_toArray, List.set_cons_zero, List.set_cons_succ])
  (refine wpQuiet_val (v := (.int .i64 o2)) rfl (fun W hW => by first | (go_simp; done) | (go_simp; omega)) ?_; simp only [Act.put, List.setIfInBounds_toArray, List.set_cons_zero, List.set_cons_succ])
  (refine wpQuiet_val (v := (.int .i64 o2)) rfl (fun W hW => by first | (go_simp; done) | (go_simp; omega)) ?_; simp only [Act.put, List.setIfInBounds_toArray, List.set_cons_zero, List.set_cons_succ])
  (refine wpQuiet_val (v := (.bool true)) rfl (fun W hW => by first | (go_simp; done) | (go_simp; omega)) ?_; simp only [Act.put, List.setIfInBounds_toArray, List.set_cons_zero, List.set_cons_succ])
  (refine wpQuiet_val (v := (.bool true)) rfl (fun W hW => by first | (go_simp; done) | (go_simp; omega)) ?_; simp only [Act.put, List.setIfInBounds_toArray, List.set_cons_zero, List.set_cons_succ])
  (refine wpQuiet_val (v := (.bool true)) rfl (fun W hW => by first | (go_simp; done) | (go_simp; omega)) ?_; simp only [Act.put, List.setIfInBounds_toArray, List.set_cons_zero, List.set_cons_succ])
  refine wpQuiet_ld 52 (.tmp 2) rfl ⟨w.heap.size, 0, none⟩ rfl rfl (fun W hW => (B3.below hW B3.lt).loads 52 0 14 (by omega) _ Try.underlying52 rfl msgInfo cs (by rw [List.drop_zero, List.take_of_length_le (by omega)])) ?_
  simp only [Act.put, List.setIfInBounds_toArray, List.set_cons_zero, List.set_cons_succ]
  refine wpQuiet_call 31 #[.agg cs.toArray] rfl (fun W => by go_simp) (fun W hW => RetB.old hW (C1.out W (below_then HB3 HB3.size hW))) ?_
  simp only [Act.put, List.setIfInBounds_toArray, List.set_cons_zero, List.set_cons_succ]
  refine wpQuiet_ld 52 (.tmp 2) rfl ⟨w.heap.size, 0, none⟩ rfl rfl (fun W hW => (B3.below hW B3.lt).loads 52 0 14 (by omega) _ Try.underlying52 rfl msgInfo cs (by rw [List.drop_zero, List.take_of_length_le (by omega)])) ?_
  simp only [Act.put, List.setIfInBounds_toArray, List.set_cons_zero, List.set_cons_succ]
  refine wpQuiet_call 32 #[.agg cs.toArray] rfl (fun W => by go_simp) (fun W hW => RetB.old hW (C2.out W (below_then HB3 HB3.size hW))) ?_
  simp only [Act.put, List.setIfInBounds_toArray, List.set_cons_zero, List.set_cons_succ]
  (refine wpQuiet_val (v := (.bool true)) rfl (fun W hW => by first | (go_simp; done) | (go_simp; omega)) ?_; simp only [Act.put, List.setIfInBounds_toArray, List.set_cons_zero, List.set_cons_succ])
  (refine wpQuiet_val (v := (.bool true)) rfl (fun W hW => by first | (go_simp; done) | (go_simp; omega)) ?_; simp only [Act.put, List.setIfInBounds_toArray, List.set_cons_zero, List.set_cons_succ])
  (refine wpQuiet_val (v := (.bool true)) rfl (fun W hW => by first | (go_simp; done) | (go_simp; omega)) ?_; simp only [Act.put, List.setIfInBounds_toArray, List.set_cons_zero, List.set_cons_succ])
  refine wpQuiet_nil ?_
  intro w4 hB4
  have HB4 := below_then HB3 HB3.size hB4
  clear B3 HB3 hB4 C1 C2
  go_wp2_with fail
  go_ret
  exact RetB.mk rfl HB4
end Go.Proofs.Ytlmgdogblbigpaa
