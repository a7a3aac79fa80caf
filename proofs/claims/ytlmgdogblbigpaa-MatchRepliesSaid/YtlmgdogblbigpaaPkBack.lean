/-
  Layer 12 (packed), the plain law of PackedBack: what is put, one behind the other, is got.
-/
import Derived.Test.YtlmgdogblbigpaaGH
import Derived.Test.YtlmgdogblbigpaaGJ
namespace Go.Proofs.Ytlmgdogblbigpaa
set_option linter.unusedVariables false

/-- Octets with a table, and without; the table; the names, and where they stand. -/
structure PB where
  x : List UInt8
  y : List UInt8
  T : List (List (List UInt8) × Nat)
  all : List (List (List UInt8))
  ats : List Nat
  oth : List Nat
def pbStep (s : PB) (n : List (List UInt8)) : PB :=
  if checkN n = 0 then ⟨s.x ++ putS s.T s.x.length n, s.y ++ putZ n, putT s.T s.x.length n, s.all ++ [n], s.ats ++ [s.x.length], s.oth ++ [s.y.length]⟩ else s
def pbK (first : List UInt8) (ls : List (List (List UInt8))) (k : Nat) : PB := (ls.take k).foldl pbStep ⟨first, first, [], [], [], []⟩
theorem pbK_succ (first : List UInt8) (ls : List (List (List UInt8))) (k : Nat) (h : k < ls.length) : pbK first ls (k + 1) = pbStep (pbK first ls k) ls[k] := by
  unfold pbK
  rw [List.take_succ_eq_append_getElem h, List.foldl_append]; rfl
/-- Names stand one behind the other. -/
def Row1 (x : List UInt8) (all : List (List (List UInt8))) (ats : List Nat) : Prop :=
  ats.length = all.length ∧ ∀ i (hi : i < all.length) (ha : i < ats.length), ats[i] ≤ x.length ∧ Rd x ats[i] ats[i] all[i] ((ats ++ [x.length]).getD (i + 1) 0) ∧ checkN all[i] = 0
theorem Row1.snoc {x a : List UInt8} {all : List (List (List UInt8))} {ats : List Nat} {n : List (List UInt8)} (h : Row1 x all ats) (hr : Rd (x ++ a) x.length x.length n (x.length + a.length)) (hc : checkN n = 0) : Row1 (x ++ a) (all ++ [n]) (ats ++ [x.length]) := by
  obtain ⟨hl, hi⟩ := h
  refine ⟨by simp [hl], fun i h1 h2 => ?_⟩
  by_cases hlt : i < all.length
  · have h3 : i < ats.length := by omega
    obtain ⟨p1, p2, p3⟩ := hi i hlt h3
    have e1 : (all ++ [n])[i] = all[i] := by rw [List.getElem_append_left]
    have e2 : (ats ++ [x.length])[i] = ats[i] := by rw [List.getElem_append_left]
    have e3 : (ats ++ [x.length] ++ [(x ++ a).length]).getD (i + 1) 0 = (ats ++ [x.length]).getD (i + 1) 0 := by
      simp only [List.getD]
      rw [List.getElem?_append_left (by simp; omega)]
    rw [e1, e2, e3]
    exact ⟨by simp; omega, p2.app a, p3⟩
  · have hi' : i = all.length := by simp at h1; omega
    subst hi'
    have e1 : (all ++ [n])[all.length] = n := by simp
    have e2 : (ats ++ [x.length])[all.length] = x.length := by simp [← hl]
    have e3 : (ats ++ [x.length] ++ [(x ++ a).length]).getD (all.length + 1) 0 = x.length + a.length := by
      simp only [List.getD]
      rw [List.getElem?_append_right (by simp; omega)]
      simp [hl]
    rw [e1, e2, e3]
    exact ⟨by simp, hr, hc⟩
structure PbOk (first : List UInt8) (k : Nat) (s : PB) : Prop where
  tab : TabOk s.x s.T
  rx : Row1 s.x s.all s.ats
  ry : Row1 s.y s.all s.oth
  lx : s.x.length ≤ first.length + 255 * k
  ly : s.y.length ≤ first.length + 255 * k
  lt : s.T.length ≤ 254 * k
  la : s.all.length ≤ k
theorem put_rd (x : List UInt8) (T : List (List (List UInt8) × Nat)) (hT : TabOk x T) (n : List (List UInt8)) (hc : checkN n = 0) :
    (∃ a, putS T x.length n = a ∧ a.length ≤ lsum n + 1 ∧ Rd (x ++ a) x.length x.length n (x.length + a.length)) ∧ TabOk (x ++ putS T x.length n) (putT T x.length n) := by
  obtain ⟨hg, hs⟩ := checkN_ok hc
  obtain ⟨⟨a, h1, h2, h3, h4⟩, h5⟩ := pgo_rd T x hT n [] hg
  unfold putS putT
  rw [if_pos hc, if_pos hc]
  refine ⟨⟨_, rfl, ?_, ?_⟩, ?_⟩
  · rw [h1]; simpa using h2
  · have := h4 x.length (Nat.le_refl _)
    rw [h1]; simpa using this
  · intro r hr
    rcases List.mem_append.1 hr with h | h
    · exact hT.app _ r h
    · exact h5 r h
theorem tabOk_nil (x : List UInt8) : TabOk x [] := by intro r hr; cases hr
theorem putZ_rd (x : List UInt8) (n : List (List UInt8)) (hc : checkN n = 0) : (putZ n).length = lsum n + 1 ∧ Rd (x ++ putZ n) x.length x.length n (x.length + (putZ n).length) := by
  have e : putS [] x.length n = putZ n := by
    unfold putS putZ encZ
    rw [if_pos hc, if_pos hc, pgo_none]; simp
  obtain ⟨⟨a, h1, h2, h3⟩, _⟩ := put_rd x [] (tabOk_nil x) n hc
  rw [e] at h1
  subst h1
  refine ⟨?_, h3⟩
  unfold putZ encZ
  rw [if_pos hc, List.length_append, encN_length]; rfl
theorem pbStep_ok {first : List UInt8} {k : Nat} {s : PB} (h : PbOk first k s) (n : List (List UInt8)) : PbOk first (k + 1) (pbStep s n) := by
  unfold pbStep
  by_cases hc : checkN n = 0
  · rw [if_pos hc]
    obtain ⟨⟨a, h1, h2, h3⟩, h4⟩ := put_rd s.x s.T h.tab n hc
    obtain ⟨z1, z2⟩ := putZ_rd s.y n hc
    have hs := (checkN_ok hc).2
    have hT := putT_length s.T s.x.length n
    have hk := h.lx
    have hky := h.ly
    have hkt := h.lt
    have hka := h.la
    refine ⟨h4, h.rx.snoc (by rw [h1]; exact h3) hc, h.ry.snoc z2 hc, ?_, ?_, ?_, ?_⟩
    · simp only [List.length_append, h1]; omega
    · simp only [List.length_append, z1]; omega
    · simp only; omega
    · simp; omega
  · rw [if_neg hc]
    have hk := h.lx
    have hky := h.ly
    have hkt := h.lt
    have hka := h.la
    exact ⟨h.tab, h.rx, h.ry, by omega, by omega, by omega, by omega⟩
theorem pbK_ok (first : List UInt8) (ls : List (List (List UInt8))) : ∀ k, k ≤ ls.length → PbOk first k (pbK first ls k) := by
  intro k
  induction k with
  | zero =>
    intro _
    have e : pbK first ls 0 = ⟨first, first, [], [], [], []⟩ := by simp [pbK]
    rw [e]
    exact ⟨tabOk_nil _, ⟨rfl, fun i hi => by simp at hi⟩, ⟨rfl, fun i hi => by simp at hi⟩, by simp, by simp, by simp, by simp⟩
  | succ k ih =>
    intro hk
    rw [pbK_succ first ls k (by omega)]
    exact pbStep_ok (ih (by omega)) _
/-- Without a table it is not shorter. -/
theorem put_le {first : List UInt8} {k : Nat} {s : PB} (h : PbOk first k s) (n : List (List UInt8)) (hc : checkN n = 0) : (putS s.T s.x.length n).length ≤ (putZ n).length := by
  obtain ⟨⟨a, h1, h2, h3⟩, h4⟩ := put_rd s.x s.T h.tab n hc
  rw [h1, (putZ_rd s.y n hc).1]; omega
theorem row_get {x : List UInt8} {all : List (List (List UInt8))} {ats : List Nat} (h : Row1 x all ats) (i : Nat) (hi : i < all.length) (ha : i < ats.length) : pget x (ats[i] : Int) = .ok all[i] ((ats ++ [x.length]).getD (i + 1) 0) := by
  obtain ⟨h1, h2, h3⟩ := h.2 i hi ha
  exact rd_pget h2 h1 (checkN_ok h3).2
end Go.Proofs.Ytlmgdogblbigpaa
