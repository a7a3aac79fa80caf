/-
  Layer 13, the plain law of RdataBack: what is put is got.
-/
import Derived.Test.YtlmgdogblbigpaaDec
import Derived.Test.YtlmgdogblbigpaaPkBack
namespace Go.Proofs.Ytlmgdogblbigpaa
set_option linter.unusedVariables false
set_option linter.unusedSimpArgs false
set_option maxRecDepth 10000

def TabOkO (m : List UInt8) (T : Option Tab) : Prop := ∀ T', T = some T' → TabOk m T'
theorem TabOkO.app {m : List UInt8} {T : Option Tab} (h : TabOkO m T) (y : List UInt8) : TabOkO (m ++ y) T := fun T' e => (h T' e).app y
theorem putSO_rd (x : List UInt8) (T : Option Tab) (n : List (List UInt8)) (hT : TabOkO x T) (hc : checkN n = 0) :
    Rd (x ++ putSO T x.length n) x.length x.length n (x.length + (putSO T x.length n).length) ∧ TabOkO (x ++ putSO T x.length n) (putTO T x.length n) ∧ (putSO T x.length n).length ≤ lsum n + 1 := by
  cases T with
  | none =>
    obtain ⟨h1, h2⟩ := putZ_rd x n hc
    exact ⟨h2, fun T' e => (by cases e), (by show (putZ n).length ≤ _; omega)⟩
  | some T =>
    obtain ⟨⟨a, h1, h2, h3⟩, h4⟩ := put_rd x T (hT T rfl) n hc
    subst h1
    exact ⟨h3, fun T' e => (by cases e; exact h4), h2⟩
theorem nameAt_rd {m : List UInt8} {p : Nat} {n : List (List UInt8)} {e : Nat} (h : Rd m p p n e) (hp : p ≤ m.length) (hc : checkN n = 0) : nameAt m p = .ok (n, e) := by
  unfold nameAt
  rw [rd_pget h hp (checkN_ok hc).2]
theorem nameE_rd {m : List UInt8} {p : Nat} {n : List (List UInt8)} {e : Nat} (h : Rd m p p n e) (hp : p ≤ m.length) (hc : checkN n = 0) : nameE m p = .ok (n, e) := by
  unfold nameE
  rw [nameAt_rd h hp hc]
theorem numB_put2 (n : Int) (h : inB 65535 n = true) : ((numB (putB 2 n) : Nat) : Int) = n := by
  have h2 := numB_putB 2 n
  simp only [inB, Bool.and_eq_true, decide_eq_true_eq] at h
  rw [h2]
  exact Int.emod_eq_of_lt h.1 (by have := h.2; omega)
theorem numB_put4 (n : Int) (h : inB 4294967295 n = true) : ((numB (putB 4 n) : Nat) : Int) = n := by
  have h2 := numB_putB 4 n
  simp only [inB, Bool.and_eq_true, decide_eq_true_eq] at h
  rw [h2]
  exact Int.emod_eq_of_lt h.1 (by have := h.2; omega)
/-- A record's data alone. -/
def onlyD (r : RR) : RR := { r with name := [], ty := 0, cl := 0, ttl := 0 }
structure ROk (r : RR) : Prop where
  nm : checkN r.name = 0
  ty : inB 65535 r.ty = true
  cl : inB 65535 r.cl = true
  ttl : inB 4294967295 r.ttl = true
  has : hasE r = 0
  bare : bareB (clearR r) = true
theorem rOk_of {r : RR} (h : checkR r = 0) : ROk r := by
  unfold checkR at h
  by_cases h1 : checkN r.name = 0
  · rw [if_neg (by simp [h1])] at h
    by_cases h2 : ¬ ([r.ty, r.cl].all (inB 65535)) = true ∨ ¬ inB 4294967295 r.ttl = true
    · rw [if_pos h2] at h; cases h
    · rw [if_neg h2] at h
      by_cases h3 : hasE r = 0
      · rw [if_neg (by simp [h3])] at h
        by_cases h4 : bareB (clearR r) = true
        · simp only [not_or, Classical.not_not, List.all_cons, List.all_nil, Bool.and_true, Bool.and_eq_true] at h2
          exact ⟨h1, h2.1.1, h2.1.2, h2.2, h3, h4⟩
        · rw [if_neg h4] at h; cases h
      · rw [if_pos h3] at h; exact absurd h h3
  · rw [if_pos h1] at h; exact absurd h h1
theorem rOk_to {r : RR} (h : ROk r) : checkR r = 0 := by
  unfold checkR
  rw [if_neg (by simp [h.nm]), if_neg (by simp [h.ty, h.cl, h.ttl]), if_neg (by simp [h.has]), if_pos h.bare]
theorem bare_iff {r : RR} : bareB r = true ↔ r.ad = Adr.zero ∧ r.tg = [] ∧ r.ml = [] ∧ r.pri = 0 ∧ r.we = 0 ∧ r.po = 0 ∧ r.nums = [0, 0, 0, 0, 0] ∧ r.raw = [] := by
  simp [bareB, and_assoc]
theorem take_app_len (s d : List UInt8) : (s ++ d).take (s.length + d.length) = s ++ d := List.take_of_length_le (by simp)
theorem getR_back (s : List UInt8) (T : Option Tab) (r : RR) (hw : r.wf) (hc : checkR r = 0) (hT : TabOkO s T) :
    getR (s ++ dataR T s.length r) s.length (dataR T s.length r).length r.ty r.cl = .ok (onlyD r) ∧ TabOkO (s ++ dataR T s.length r) (tabR T s.length r) := by
  have ok := rOk_of hc
  have hE := ok.has
  have hB := ok.bare
  obtain ⟨name, ty, cl, ttl, ad, tg, ml, pri, we, po, nums, raw⟩ := r
  have hw1 : ad.ip.length = 16 := hw.1
  have hw2 : nums.length = 5 := hw.2
  unfold getR dataR tabR
  unfold hasE at hE
  unfold clearR at hB
  simp only at hE hB ⊢
  rcases kindR_cases ty cl with h | h | h | h | h | h
  · -- A
    simp only [h] at hE hB ⊢
    simp only [if_true, true_or, show ¬ ((1 : Int) = 28) by decide, show ¬ ((1 : Int) = 5) by decide, show ¬ ((1 : Int) = 12) by decide, show ¬ ((1 : Int) = 6) by decide, or_self, if_false] at hE hB ⊢
    obtain ⟨b1, b2, b3, b4, b5, b6, b7, b8⟩ := bare_iff.1 hB
    simp only at b1 b2 b3 b4 b5 b6 b7 b8
    have hd : (ad.ip.take 4).length = 4 := by simp [hw1]
    refine ⟨?_, hT.app _⟩
    rw [if_pos hd, take_app_len, List.drop_left]
    split at hE
    · cases hE
    · rename_i hn
      simp only [not_or, Classical.not_not] at hn
      obtain ⟨n1, n2, n3⟩ := hn
      have n4 : ad.ip.drop 4 = List.replicate 12 0 := by
        unfold Adr.check at n1
        rw [if_pos n2] at n1
        split at n1
        · rename_i hh; exact hh.1
        · cases n1
      have e : ad = ⟨4, ad.ip.take 4 ++ List.replicate 12 0, 0⟩ := by
        rw [← n4, List.take_append_drop, ← n2, ← n3]
      subst b2 b3 b4 b5 b6 b7 b8
      unfold onlyD
      simp only [RR.zero]
      rw [← e]
  · -- AAAA
    simp only [h] at hE hB ⊢
    simp only [if_true, or_true, show ¬ ((28 : Int) = 1) by decide, show ¬ ((28 : Int) = 5) by decide, show ¬ ((28 : Int) = 12) by decide, show ¬ ((28 : Int) = 6) by decide, or_self, if_false] at hE hB ⊢
    obtain ⟨b1, b2, b3, b4, b5, b6, b7, b8⟩ := bare_iff.1 hB
    simp only at b1 b2 b3 b4 b5 b6 b7 b8
    refine ⟨?_, hT.app _⟩
    rw [if_pos hw1, take_app_len, List.drop_left]
    split at hE
    · cases hE
    · rename_i hn
      simp only [not_or, Classical.not_not] at hn
      obtain ⟨n1, n2, n3⟩ := hn
      have e : ad = ⟨6, ad.ip, 0⟩ := by rw [← n2, ← n3]
      subst b2 b3 b4 b5 b6 b7 b8
      unfold onlyD
      simp only [RR.zero]
      rw [← e]
  · -- names
    have h1 : ¬ kindR ty cl = 1 := by rcases h with h | h <;> omega
    have h2 : ¬ kindR ty cl = 28 := by rcases h with h | h <;> omega
    have h12 : ¬ (kindR ty cl = 1 ∨ kindR ty cl = 28) := by omega
    rw [if_neg h1, if_neg h2, if_pos h] at hE
    rw [if_neg h12, if_pos h] at hB
    rw [if_neg h1, if_neg h2, if_pos h, if_neg h1, if_neg h2, if_pos h, if_pos h]
    obtain ⟨b1, b2, b3, b4, b5, b6, b7, b8⟩ := bare_iff.1 hB
    simp only at b1 b2 b3 b4 b5 b6 b7 b8
    obtain ⟨p1, p2, p3⟩ := putSO_rd s T tg hT hE
    refine ⟨?_, p2⟩
    rw [take_app_len]
    unfold targAt
    rw [nameE_rd p1 (by simp) hE]
    simp only
    rw [if_pos (by simp)]
    subst b1 b3 b4 b5 b6 b7 b8
    rfl
  · -- SRV
    simp only [h] at hE hB ⊢
    simp only [if_true, show ¬ ((33 : Int) = 1) by decide, show ¬ ((33 : Int) = 28) by decide, show ¬ ((33 : Int) = 5) by decide, show ¬ ((33 : Int) = 12) by decide, show ¬ ((33 : Int) = 6) by decide, or_self, if_false] at hE hB ⊢
    obtain ⟨b1, b2, b3, b4, b5, b6, b7, b8⟩ := bare_iff.1 hB
    simp only at b1 b2 b3 b4 b5 b6 b7 b8
    split at hE
    · rename_i hn
      simp only [List.all_cons, List.all_nil, Bool.and_true, Bool.and_eq_true] at hn
      obtain ⟨n1, n2, n3⟩ := hn
      refine ⟨?_, hT.app _⟩
      obtain ⟨z1, z2⟩ := putZ_rd (s ++ (putB 2 pri ++ putB 2 we ++ putB 2 po)) tg hE
      have hl6 : (putB 2 pri ++ putB 2 we ++ putB 2 po).length = 6 := by simp [putB_length]
      have hl : (s ++ (putB 2 pri ++ putB 2 we ++ putB 2 po)).length = s.length + 6 := by rw [List.length_append, hl6]
      rw [if_neg (by simp only [List.length_append, putB_length]; omega), take_app_len]
      rw [hl, List.append_assoc] at z2
      unfold targAt
      rw [nameE_rd z2 (by simp only [List.length_append, putB_length]; omega) hE]
      simp only
      rw [if_pos (by simp only [List.length_append, putB_length]; omega), List.drop_left]
      have t1 : (putB 2 pri ++ putB 2 we ++ putB 2 po ++ putZ tg).take 2 = putB 2 pri := by
        rw [List.append_assoc, List.append_assoc]; exact List.take_left' (putB_length 2 _)
      have d2 : (putB 2 pri ++ putB 2 we ++ putB 2 po ++ putZ tg).drop 2 = putB 2 we ++ (putB 2 po ++ putZ tg) := by
        rw [List.append_assoc, List.append_assoc]; exact List.drop_left' (putB_length 2 _)
      have d4 : (putB 2 pri ++ putB 2 we ++ putB 2 po ++ putZ tg).drop 4 = putB 2 po ++ putZ tg := by
        rw [show (4 : Nat) = 2 + 2 from rfl, ← List.drop_drop, d2]; exact List.drop_left' (putB_length 2 _)
      rw [t1, d2, d4, List.take_left' (putB_length 2 _), List.take_left' (putB_length 2 _), numB_put2 _ n1, numB_put2 _ n2, numB_put2 _ n3]
      subst b1 b3 b7 b8
      rfl
    · cases hE
  · -- SOA
    simp only [h] at hE hB ⊢
    simp only [if_true, show ¬ ((6 : Int) = 1) by decide, show ¬ ((6 : Int) = 28) by decide, show ¬ ((6 : Int) = 5) by decide, show ¬ ((6 : Int) = 12) by decide, show ¬ ((6 : Int) = 33) by decide, or_self, if_false] at hE hB ⊢
    obtain ⟨b1, b2, b3, b4, b5, b6, b7, b8⟩ := bare_iff.1 hB
    simp only at b1 b2 b3 b4 b5 b6 b7 b8
    by_cases e1 : checkN tg = 0
    · rw [if_neg (by simp [e1])] at hE
      by_cases e2 : checkN ml = 0
      · rw [if_neg (by simp [e2])] at hE
        split at hE
        · rename_i hn
          obtain ⟨p1, p2, p3⟩ := putSO_rd s T tg hT e1
          obtain ⟨A, hA⟩ : ∃ A, A = putSO T s.length tg := ⟨_, rfl⟩
          rw [← hA] at p1 p2 p3 ⊢
          have hat : ((s.length : Int) + (A.length : Int)) = (((s ++ A).length : Nat) : Int) := by simp
          rw [hat]
          obtain ⟨q1, q2, q3⟩ := putSO_rd (s ++ A) (putTO T s.length tg) ml p2 e2
          obtain ⟨B, hB'⟩ : ∃ B, B = putSO (putTO T s.length tg) ((s ++ A).length : Nat) ml := ⟨_, rfl⟩
          rw [← hB'] at q1 q2 q3 ⊢
          obtain ⟨N, hN⟩ : ∃ N, N = nums.flatMap (putB 4) := ⟨_, rfl⟩
          rw [← hN]
          have hNl : N.length = 20 := by
            rw [hN]
            match nums, hw2 with
            | [x0, x1, x2, x3, x4], _ => simp [putB_length]
          have hm : s ++ (A ++ B ++ N) = s ++ A ++ B ++ N := by simp
          refine ⟨?_, by rw [hm]; exact q2.app _⟩
          rw [take_app_len, hm]
          have p1' : Rd (s ++ A ++ B ++ N) s.length s.length tg (s.length + A.length) := (p1.app B).app N
          have q1' : Rd (s ++ A ++ B ++ N) (s ++ A).length (s ++ A).length ml ((s ++ A).length + B.length) := q1.app N
          rw [nameE_rd p1' (by simp only [List.length_append]; omega) e1]
          simp only
          rw [show s.length + A.length = (s ++ A).length by simp, nameE_rd q1' (by simp only [List.length_append]; omega) e2]
          simp only
          rw [if_pos (by simp only [List.length_append, hNl])]
          have hnum : numsAt (s ++ A ++ B ++ N) ((s ++ A).length + B.length) = nums := by
            have hd : (s ++ A ++ B ++ N).drop ((s ++ A).length + B.length) = N := by rw [← List.length_append, List.drop_left]
            unfold numsAt
            simp only [← List.drop_drop, hd]
            match nums, hw2, hN, hn with
            | [x0, x1, x2, x3, x4], _, hN, hn =>
              simp only [List.all_cons, List.all_nil, Bool.and_true, Bool.and_eq_true] at hn
              obtain ⟨n0, n1, n2, n3, n4⟩ := hn
              have hN' : N = putB 4 x0 ++ (putB 4 x1 ++ (putB 4 x2 ++ (putB 4 x3 ++ (putB 4 x4)))) := by rw [hN]; simp
              have f1 : N.drop 4 = putB 4 x1 ++ (putB 4 x2 ++ (putB 4 x3 ++ (putB 4 x4))) := by rw [hN']; exact List.drop_left' (putB_length 4 _)
              have f2 : N.drop 8 = putB 4 x2 ++ (putB 4 x3 ++ (putB 4 x4)) := by rw [show (8 : Nat) = 4 + 4 from rfl, ← List.drop_drop, f1]; exact List.drop_left' (putB_length 4 _)
              have f3 : N.drop 12 = putB 4 x3 ++ (putB 4 x4) := by rw [show (12 : Nat) = 8 + 4 from rfl, ← List.drop_drop, f2]; exact List.drop_left' (putB_length 4 _)
              have f4 : N.drop 16 = putB 4 x4 := by rw [show (16 : Nat) = 12 + 4 from rfl, ← List.drop_drop, f3]; exact List.drop_left' (putB_length 4 _)
              have g0 : N.take 4 = putB 4 x0 := by rw [hN']; exact List.take_left' (putB_length 4 _)
              rw [f1, f2, f3, f4, g0, List.take_left' (putB_length 4 _), List.take_left' (putB_length 4 _), List.take_left' (putB_length 4 _), List.take_of_length_le (by rw [putB_length]; omega), numB_put4 _ n0, numB_put4 _ n1, numB_put4 _ n2, numB_put4 _ n3, numB_put4 _ n4]
          rw [hnum]
          subst b1 b4 b5 b6 b8
          rfl
        · cases hE
      · rw [if_pos e2] at hE; exact absurd hE e2
    · rw [if_pos e1] at hE; exact absurd hE e1
  · -- others
    simp only [h] at hE hB ⊢
    simp only [if_true, show ¬ ((0 : Int) = 1) by decide, show ¬ ((0 : Int) = 28) by decide, show ¬ ((0 : Int) = 5) by decide, show ¬ ((0 : Int) = 12) by decide, show ¬ ((0 : Int) = 33) by decide, show ¬ ((0 : Int) = 6) by decide, or_self, if_false] at hE hB ⊢
    obtain ⟨b1, b2, b3, b4, b5, b6, b7, b8⟩ := bare_iff.1 hB
    simp only at b1 b2 b3 b4 b5 b6 b7 b8
    refine ⟨?_, hT.app _⟩
    rw [take_app_len, List.drop_left]
    subst b1 b2 b3 b4 b5 b6 b7
    rfl
end Go.Proofs.Ytlmgdogblbigpaa
