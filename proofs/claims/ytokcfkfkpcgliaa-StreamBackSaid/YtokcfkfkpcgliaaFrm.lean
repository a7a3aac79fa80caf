/-
  Layer 15 (stream), the plain law: the frames that octets begin with.
-/
import Derived.Test.YtokcfkfkpcgliaaStream3
namespace Go.Proofs.Ytokcfkfkpcgliaa
open Go.RowKit

theorem wholeB_iff (s : List UInt8) : wholeB s = true ↔ 2 ≤ s.length ∧ numB (s.take 2) ≤ s.length - 2 := by simp [wholeB]
/-- The first frame's message, and what is behind it. -/
def msg1 (s : List UInt8) : List UInt8 := (s.drop 2).take (numB (s.take 2))
def rest1 (s : List UInt8) : List UInt8 := s.drop (2 + numB (s.take 2))
/-- The frames that octets begin with, and what is behind them. -/
def frF : Nat → List UInt8 → List (List UInt8) × List UInt8
  | 0, s => ([], s)
  | k + 1, s => if wholeB s then (msg1 s :: (frF k (rest1 s)).1, (frF k (rest1 s)).2) else ([], s)
theorem rest1_lt (s : List UInt8) (h : wholeB s = true) : (rest1 s).length + 2 ≤ s.length := by
  have := (wholeB_iff s).1 h
  simp [rest1]; omega
theorem frF_fuel : ∀ (k j : Nat) (s : List UInt8), s.length ≤ k → s.length ≤ j → frF k s = frF j s := by
  intro k
  induction k with
  | zero =>
    intro j s hk hj
    have hs : s = [] := List.length_eq_zero_iff.1 (by omega)
    subst hs
    cases j with
    | zero => rfl
    | succ j => simp [frF, wholeB]
  | succ k ih =>
    intro j s hk hj
    cases j with
    | zero =>
      have hs : s = [] := List.length_eq_zero_iff.1 (by omega)
      subst hs
      simp [frF, wholeB]
    | succ j =>
      unfold frF
      cases hw : wholeB s with
      | false => rfl
      | true =>
        have := rest1_lt s hw
        rw [ih j (rest1 s) (by omega) (by omega)]
def frames (s : List UInt8) : List (List UInt8) := (frF s.length s).1
def restF (s : List UInt8) : List UInt8 := (frF s.length s).2
theorem frames_no (s : List UInt8) (h : wholeB s = false) : frames s = [] ∧ restF s = s := by
  unfold frames restF
  cases s.length with
  | zero => exact ⟨rfl, rfl⟩
  | succ k => simp [frF, h]
theorem frames_yes (s : List UInt8) (h : wholeB s = true) : frames s = msg1 s :: frames (rest1 s) ∧ restF s = restF (rest1 s) := by
  have hl := rest1_lt s h
  obtain ⟨k, hk⟩ : ∃ k, s.length = k + 1 := ⟨s.length - 1, by omega⟩
  unfold frames restF
  rw [hk]
  simp only [frF, h, if_true]
  rw [frF_fuel k (rest1 s).length (rest1 s) (by omega) (Nat.le_refl _)]
  exact ⟨rfl, rfl⟩
theorem whole_app (a b : List UInt8) (h : wholeB a = true) : wholeB (a ++ b) = true ∧ msg1 (a ++ b) = msg1 a ∧ rest1 (a ++ b) = rest1 a ++ b := by
  obtain ⟨h1, h2⟩ := (wholeB_iff a).1 h
  have e : (a ++ b).take 2 = a.take 2 := List.take_append_of_le_length h1
  refine ⟨(wholeB_iff _).2 ⟨by simp; omega, by rw [e]; simp; omega⟩, ?_, ?_⟩
  · unfold msg1
    rw [e, List.drop_append_of_le_length h1, List.take_append_of_le_length (by simp; omega)]
  · unfold rest1
    rw [e, List.drop_append_of_le_length (by omega)]
theorem frames_app : ∀ (n : Nat) (a b : List UInt8), a.length ≤ n → frames (a ++ b) = frames a ++ frames (restF a ++ b) ∧ restF (a ++ b) = restF (restF a ++ b) := by
  intro n
  induction n with
  | zero =>
    intro a b h
    have ha : a = [] := List.length_eq_zero_iff.1 (by omega)
    subst ha
    have := frames_no [] rfl
    rw [this.1, this.2]; simp
  | succ n ih =>
    intro a b h
    cases hw : wholeB a with
    | false => rw [(frames_no a hw).1, (frames_no a hw).2]; simp
    | true =>
      obtain ⟨w1, w2, w3⟩ := whole_app a b hw
      have hl := rest1_lt a hw
      obtain ⟨i1, i2⟩ := ih (rest1 a) b (by omega)
      rw [(frames_yes _ w1).1, (frames_yes _ w1).2, (frames_yes a hw).1, (frames_yes a hw).2, w2, w3, i1, i2]
      simp
theorem restF_le : ∀ (n : Nat) (a : List UInt8), a.length ≤ n → (restF a).length ≤ a.length := by
  intro n
  induction n with
  | zero =>
    intro a h
    have ha : a = [] := List.length_eq_zero_iff.1 (by omega)
    subst ha
    rw [(frames_no [] rfl).2]
    exact Nat.le_refl _
  | succ n ih =>
    intro a h
    cases hw : wholeB a with
    | false => rw [(frames_no a hw).2]; exact Nat.le_refl _
    | true =>
      have hl := rest1_lt a hw
      have := ih (rest1 a) (by omega)
      rw [(frames_yes a hw).2]; omega
theorem frames_le : ∀ (n : Nat) (a : List UInt8), a.length ≤ n → (frames a).length * 2 + (restF a).length ≤ a.length := by
  intro n
  induction n with
  | zero =>
    intro a h
    have ha : a = [] := List.length_eq_zero_iff.1 (by omega)
    subst ha
    rw [(frames_no [] rfl).1, (frames_no [] rfl).2]
    simp
  | succ n ih =>
    intro a h
    cases hw : wholeB a with
    | false => rw [(frames_no a hw).1, (frames_no a hw).2]; simp
    | true =>
      have hl := rest1_lt a hw
      have := ih (rest1 a) (by omega)
      rw [(frames_yes a hw).1, (frames_yes a hw).2]
      simp; omega
theorem restF_idem (a : List UInt8) : wholeB (restF a) = false := by
  have : ∀ (n : Nat) (a : List UInt8), a.length ≤ n → wholeB (restF a) = false := by
    intro n
    induction n with
    | zero =>
      intro a h
      have ha : a = [] := List.length_eq_zero_iff.1 (by omega)
      subst ha
      rw [(frames_no [] rfl).2]
      rfl
    | succ n ih =>
      intro a h
      cases hw : wholeB a with
      | false => rw [(frames_no a hw).2]; exact hw
      | true =>
        have hl := rest1_lt a hw
        rw [(frames_yes a hw).2]
        exact ih _ (by omega)
  exact this a.length a (Nat.le_refl _)

/-- A row of texts. -/
def Txts (w : World) (v : Value) (l : List (List UInt8)) : Prop := w.ownsRow 0 9 1 v l.length (l.map fun t => Value.string (bs t))
theorem Txts.nil (w : World) : Txts w (.slice none 0 0) [] := World.ownsRow_nil _ _ _ _
theorem strInfo : (Try.prog.info? 9).map (fun i => (i.zero, i.size, i.bytes)) = some (some (.string ⟨#[]⟩), 1, 16) := by kernel_rfl
end Go.Proofs.Ytokcfkfkpcgliaa
