/-
  What is no message, plainly: why it is none is an error.
-/
import Derived.Test.YtlmgdogblbigpaaDec
namespace Go.Proofs.Ytlmgdogblbigpaa
set_option linter.unusedVariables false
set_option linter.unusedSimpArgs false

theorem nameAt_ne {m : List UInt8} {p : Nat} {x : Int} (h : nameAt m p = .error x) : x ≠ 0 := by
  rcases nameAt_cases m p with ⟨l, n, h1, h2, h3⟩ | ⟨e, h1, h2, h3⟩
  · rw [h2] at h; cases h
  · rw [h2] at h; injection h with h; subst h; exact h3.ne
theorem nameE_ne {m : List UInt8} {p : Nat} {x : Int} (h : nameE m p = .error x) : x ≠ 0 := by
  rcases nameE_cases m p with ⟨l, n, h1, h2, h3⟩ | ⟨e, h1, h2, h3, h4⟩
  · rw [h2] at h; cases h
  · rw [h2] at h; injection h with h; subst h; exact h4.ne
theorem numAt_ne {m : List UInt8} {k p : Nat} {x : Int} (h : numAt m k p = .error x) : x ≠ 0 := by
  unfold numAt at h
  split at h
  · injection h with h; omega
  · cases h
theorem targAt_ne {m : List UInt8} {p : Nat} {x : Int} (h : targAt m p = .error x) : x ≠ 0 := by
  unfold targAt at h
  cases h1 : nameE m p with
  | error e => rw [h1] at h; injection h with h; subst h; exact nameE_ne h1
  | ok y =>
    rw [h1] at h; simp only at h
    split at h
    · cases h
    · injection h with h; omega
theorem getR_ne {m : List UInt8} {a n : Nat} {ty cl x : Int} (h : getR m a n ty cl = .error x) : x ≠ 0 := by
  unfold getR at h
  split at h
  · split at h
    · cases h
    · injection h with h; omega
  split at h
  · split at h
    · cases h
    · injection h with h; omega
  split at h
  · split at h
    · rename_i ht; injection h with h; subst h; exact targAt_ne ht
    · cases h
  split at h
  · split at h
    · injection h with h; omega
    · split at h
      · rename_i ht; injection h with h; subst h; exact targAt_ne ht
      · cases h
  split at h
  · split at h
    · rename_i ht; injection h with h; subst h; exact nameE_ne ht
    · split at h
      · rename_i ht; injection h with h; subst h; exact nameE_ne ht
      · split at h
        · cases h
        · injection h with h; omega
  · cases h
theorem questAt_ne {m : List UInt8} {p : Nat} {x : Int} (h : questAt m p = .error x) : x ≠ 0 := by
  unfold questAt at h
  cases h1 : nameAt m p with
  | error e => rw [h1] at h; injection h with h; subst h; exact nameAt_ne h1
  | ok y =>
  rw [h1] at h; simp only at h
  cases h2 : numAt m 2 y.2 with
  | error e => rw [h2] at h; injection h with h; subst h; exact numAt_ne h2
  | ok z =>
  rw [h2] at h; simp only at h
  cases h3 : numAt m 2 z.2 with
  | error e => rw [h3] at h; injection h with h; subst h; exact numAt_ne h3
  | ok u => rw [h3] at h; cases h
theorem recAt_ne {m : List UInt8} {p : Nat} {x : Int} (h : recAt m p = .error x) : x ≠ 0 := by
  unfold recAt at h
  cases h1 : nameAt m p with
  | error e => rw [h1] at h; injection h with h; subst h; exact nameAt_ne h1
  | ok y =>
  rw [h1] at h; simp only at h
  cases h2 : numAt m 2 y.2 with
  | error e => rw [h2] at h; injection h with h; subst h; exact numAt_ne h2
  | ok z =>
  rw [h2] at h; simp only at h
  cases h3 : numAt m 2 z.2 with
  | error e => rw [h3] at h; injection h with h; subst h; exact numAt_ne h3
  | ok u =>
  rw [h3] at h; simp only at h
  cases h4 : numAt m 4 u.2 with
  | error e => rw [h4] at h; injection h with h; subst h; exact numAt_ne h4
  | ok v =>
  rw [h4] at h; simp only at h
  cases h5 : numAt m 2 v.2 with
  | error e => rw [h5] at h; injection h with h; subst h; exact numAt_ne h5
  | ok t =>
  rw [h5] at h; simp only at h
  split at h
  · injection h with h; omega
  · split at h
    · rename_i hg; injection h with h; subst h; exact getR_ne hg
    · cases h
theorem many_ne {α : Type} {g : Nat → Except Int (α × Nat)} (hg : ∀ p x, g p = .error x → x ≠ 0) : ∀ (k p : Nat) (x : Int), manyAt g k p = .error x → x ≠ 0
  | 0, p, x, h => by unfold manyAt at h; cases h
  | k + 1, p, x, h => by
    unfold manyAt at h
    cases h1 : g p with
    | error e => rw [h1] at h; injection h with h; subst h; exact hg _ _ h1
    | ok y =>
    rw [h1] at h; simp only at h
    cases h2 : manyAt g k y.2 with
    | error e => rw [h2] at h; injection h with h; subst h; exact many_ne hg _ _ _ h2
    | ok z => rw [h2] at h; cases h
theorem decM_ne {m : List UInt8} {x : Int} (h : decM m = .error x) : x ≠ 0 := by
  have hq := fun p x => questAt_ne (m := m) (p := p) (x := x)
  have hr := fun p x => recAt_ne (m := m) (p := p) (x := x)
  unfold decM at h
  split at h
  · injection h with h; omega
  split at h
  · injection h with h; omega
  cases h1 : manyAt (questAt m) (at2 m 4) 12 with
  | error e => rw [h1] at h; injection h with h; subst h; exact many_ne hq _ _ _ h1
  | ok y =>
  rw [h1] at h; simp only at h
  cases h2 : manyAt (recAt m) (at2 m 6) y.2 with
  | error e => rw [h2] at h; injection h with h; subst h; exact many_ne hr _ _ _ h2
  | ok z =>
  rw [h2] at h; simp only at h
  cases h3 : manyAt (recAt m) (at2 m 8) z.2 with
  | error e => rw [h3] at h; injection h with h; subst h; exact many_ne hr _ _ _ h3
  | ok u =>
  rw [h3] at h; simp only at h
  cases h4 : manyAt (recAt m) (at2 m 10) u.2 with
  | error e => rw [h4] at h; injection h with h; subst h; exact many_ne hr _ _ _ h4
  | ok v =>
  rw [h4] at h; simp only at h
  split at h
  · injection h with h; omega
  · cases h
end Go.Proofs.Ytlmgdogblbigpaa
