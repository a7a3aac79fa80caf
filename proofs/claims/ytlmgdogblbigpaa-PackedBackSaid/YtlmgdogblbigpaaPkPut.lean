/-
  Layer 12 (packed), the plain law of Put: the labels ahead of the first one of the table, and the rows that come into it.
-/
import Derived.Test.YtlmgdogblbigpaaPkPlain
namespace Go.Proofs.Ytlmgdogblbigpaa

/-- The rows of the first k names of n, n without its first label, and so on; p octets stand ahead. -/
def rowsK (at_ : Int) (p : Nat) (n : List (List UInt8)) (k : Nat) : List (List (List UInt8) × Nat) :=
  (List.range k).flatMap fun j => if low at_ (p + lsum (n.take j)) then [(n.drop j, (at_ + (p + lsum (n.take j) : Nat)).toNat)] else []
theorem rowsK_succ (at_ : Int) (p : Nat) (n : List (List UInt8)) (k : Nat) : rowsK at_ p n (k + 1) = rowsK at_ p n k ++ (if low at_ (p + lsum (n.take k)) then [(n.drop k, (at_ + (p + lsum (n.take k) : Nat)).toNat)] else []) := by
  simp [rowsK, List.range_succ, List.flatMap_append]
theorem rowsK_none (at_ : Int) (p : Nat) (n : List (List UInt8)) (k : Nat) (h : at_ < 0 ∨ 16384 ≤ at_) : rowsK at_ p n k = [] := by
  have hl : ∀ q, low at_ q = false := by
    intro q
    cases hq : low at_ q with
    | false => rfl
    | true => have := (low_iff at_ q).1 hq; omega
  induction k with
  | zero => rfl
  | succ k ih => rw [rowsK_succ, ih, hl]; rfl
theorem rowsK_length (at_ : Int) (p : Nat) (n : List (List UInt8)) (k : Nat) : (rowsK at_ p n k).length ≤ k := by
  induction k with
  | zero => exact Nat.le_refl _
  | succ k ih =>
    rw [rowsK_succ, List.length_append]
    split
    · simp; omega
    · simp; omega
theorem rowsK_mem {at_ : Int} {p : Nat} {n : List (List UInt8)} {k : Nat} {r : List (List UInt8) × Nat} (h : r ∈ rowsK at_ p n k) : ∃ j, j < k ∧ r.1 = n.drop j ∧ r.2 < 16384 := by
  induction k with
  | zero => cases h
  | succ k ih =>
    rw [rowsK_succ] at h
    rcases List.mem_append.1 h with h | h
    · obtain ⟨j, hj, h1, h2⟩ := ih h
      exact ⟨j, by omega, h1, h2⟩
    · by_cases hc : low at_ (p + lsum (n.take k)) = true
      · rw [if_pos hc, List.mem_singleton] at h
        have hl := (low_iff _ _).1 hc
        refine ⟨k, by omega, by rw [h], ?_⟩
        rw [h]
        simp only
        omega
      · rw [if_neg hc] at h; cases h
/-- Where the first k names are not in the table. -/
theorem pgo_steps (T : List (List (List UInt8) × Nat)) (at_ : Int) (pre : List UInt8) (n : List (List UInt8)) : ∀ k, k ≤ n.length → (∀ j, j < k → look T (n.drop j) = none) →
    pgo T at_ pre n = ((pgo T at_ (pre ++ encN (n.take k)) (n.drop k)).1, rowsK at_ pre.length n k ++ (pgo T at_ (pre ++ encN (n.take k)) (n.drop k)).2) := by
  intro k
  induction k with
  | zero => intro _ _; simp [rowsK]
  | succ k ih =>
    intro hk h
    rw [ih (by omega) (fun j hj => h j (by omega))]
    have hd : n.drop k = n[k] :: n.drop (k + 1) := List.drop_eq_getElem_cons (by omega)
    have hl := h k (by omega)
    rw [hd] at hl
    rw [hd, pgo_no hl]
    have e1 : pre ++ encN (n.take k) ++ encL n[k] = pre ++ encN (n.take (k + 1)) := by
      rw [List.take_succ_eq_append_getElem (by omega), encN_app, List.append_assoc]
      simp [encN]
    have e2 : (pre ++ encN (n.take k)).length = pre.length + lsum (n.take k) := by rw [List.length_append, encN_length]
    rw [e1, e2, rowsK_succ, hd, List.append_assoc]
theorem pgo_hit (T : List (List (List UInt8) × Nat)) (at_ : Int) (n : List (List UInt8)) (k q : Nat) (hk : k < n.length) (h : ∀ j, j < k → look T (n.drop j) = none) (hq : look T (n.drop k) = some q) :
    pgo T at_ [] n = (encN (n.take k) ++ putB 2 (49152 + q), rowsK at_ 0 n k) := by
  rw [pgo_steps T at_ [] n k (by omega) h]
  have hd : n.drop k = n[k] :: n.drop (k + 1) := List.drop_eq_getElem_cons hk
  rw [hd] at hq ⊢
  rw [pgo_some hq]
  simp
theorem pgo_miss (T : List (List (List UInt8) × Nat)) (at_ : Int) (n : List (List UInt8)) (h : ∀ j, j < n.length → look T (n.drop j) = none) :
    pgo T at_ [] n = (encN n ++ [0], rowsK at_ 0 n n.length) := by
  rw [pgo_steps T at_ [] n n.length (Nat.le_refl _) h]
  simp [pgo]
/-- A row more, of a name that the table does not have. -/
theorem look_snoc {T : List (List (List UInt8) × Nat)} {n : List (List UInt8)} {x : Nat} (h : look T n = none) (m : List (List UInt8)) : look (T ++ [(n, x)]) m = if m = n then some x else look T m := by
  by_cases hm : m = n
  · subst hm
    rw [if_pos rfl]
    unfold look at h ⊢
    rw [List.find?_append]
    have : T.find? (fun r => r.1 == m) = none := by simpa using h
    rw [this]; simp
  · rw [if_neg hm, look_app_none]
    intro r hr
    rw [List.mem_singleton] at hr
    subst hr
    exact fun e => hm e.symm
theorem look_rows {T : List (List (List UInt8) × Nat)} {at_ : Int} {n : List (List UInt8)} {k : Nat} (hk : k < n.length) (h : look T (n.drop k) = none) : look (T ++ rowsK at_ 0 n k) (n.drop k) = none := by
  rw [look_app_none]
  · exact h
  · intro r hr e
    obtain ⟨j, hj, h1, _⟩ := rowsK_mem hr
    have := congrArg List.length (h1.symm.trans e)
    simp at this
    omega
theorem encN_drop (n : List (List UInt8)) (k : Nat) : (encN n).drop (lsum (n.take k)) = encN (n.drop k) := by
  have e : encN n = encN (n.take k) ++ encN (n.drop k) := by rw [← encN_app, List.take_append_drop]
  rw [e, ← encN_length, List.drop_left]
theorem encN_take' (n : List (List UInt8)) (k : Nat) : (encN n).take (lsum (n.take k)) = encN (n.take k) := by
  have e : encN n = encN (n.take k) ++ encN (n.drop k) := by rw [← encN_app, List.take_append_drop]
  rw [e, ← encN_length, List.take_left]
/-- What Put tells, and the table behind it. -/
def putS (T : List (List (List UInt8) × Nat)) (at_ : Int) (n : List (List UInt8)) : List UInt8 := if checkN n = 0 then (pgo T at_ [] n).1 else []
def putT (T : List (List (List UInt8) × Nat)) (at_ : Int) (n : List (List UInt8)) : List (List (List UInt8) × Nat) := if checkN n = 0 then T ++ (pgo T at_ [] n).2 else T
end Go.Proofs.Ytlmgdogblbigpaa
