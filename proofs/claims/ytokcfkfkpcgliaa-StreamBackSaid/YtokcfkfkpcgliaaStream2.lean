/-
  Layer 15 (stream): whether a frame is whole; and all pieces as one text.
-/
import Derived.Test.YtokcfkfkpcgliaaStream
namespace Go.Proofs.Ytokcfkfkpcgliaa
open Go.RowKit
set_option maxRecDepth 100000

theorem held_step2 {A W w1 : World} (h : Below A.heap.size A W) (b : Below W.heap.size W w1) : Below A.heap.size A w1 := h.trans (b.mono h.size)
theorem bothp {p q : Prop} (h : p) (f : p → q) : p ∧ q := ⟨h, f h⟩
/-- Two octets read from an Eye that has them. -/
theorem num2s (g : Nat) (rest : List UInt8) (w : World) (h : EyeAt w g rest false) (hl : rest.length ≤ maxLen) (h2 : 2 ≤ rest.length) :
    Calls Try.prog 24 #[.pointer (some ⟨g, 0, none⟩), .int .i64 2] w (EyeRet (.int .i64 (numB (rest.take 2))) g (rest.drop 2) false w) := by
  have e : (rest.length < 2) = False := by simp; omega
  have h' := num_any g rest false 2 w h hl
  rw [show takeV rest false (hw 2) = rest.take 2 by simp [takeV, hw, e], show takeR rest false (hw 2) = rest.drop 2 by simp [takeR, hw, e], show takeS rest false (hw 2) = false by simp [takeS, hw, e]] at h'
  exact h'
/-- Do octets begin with a frame that is whole? -/
def wholeB (p : List UInt8) : Bool := decide (2 ≤ p.length) && decide (numB (p.take 2) ≤ p.length - 2)

theorem whole_no (g : Nat) (p : List UInt8) (w : World) (h : JoinAt w g p) (hp : p.length < 2) : Calls Try.prog 56 #[.pointer (some ⟨g, 0, none⟩)] w (RetB (.bool (wholeB p)) w) := by
  obtain ⟨last, ts, b0, b1, hk, hc, ht, h0, h1⟩ := h
  have c1 := hk.cell_ 1 rfl
  have hp' : (p.length : Int) < 2 := by omega
  have hd : decide ((2 : Int) ≤ p.length) = false := by simp; omega
  have hw0 : wholeB p = false := by simp [wholeB]; omega
  rw [hw0]
  clear hw0
  go_enter Try.func56, Try.ntmps56
  go_wp2_with fail
  go_quiet (fail)
  go_wp2_with fail
  go_ret
  exact RetB.mk rfl (below_drewN (Below.refl _ _) _)

theorem whole_two (g : Nat) (a b : UInt8) (p : List UInt8) (w : World) (h : JoinAt w g (a :: b :: p)) (hm : p.length ≤ 281474976710656) : Calls Try.prog 56 #[.pointer (some ⟨g, 0, none⟩)] w (RetB (.bool (wholeB (a :: b :: p))) w) := by
  obtain ⟨last, ts, b0, b1, hk, hc, ht, h0, h1⟩ := h
  obtain rfl : b0 = a := h0 a rfl
  obtain rfl : b1 = b := h1 b rfl
  obtain ⟨n, hn⟩ : ∃ n : Int, n = ((b0 :: b1 :: p).length : Nat) := ⟨_, rfl⟩
  rw [← hn] at hk
  have hn2 : (2 : Int) ≤ n := by simp at hn; omega
  have hn3 : n ≤ 281474976710658 := by simp at hn; omega
  have hd : decide ((2 : Int) ≤ n) = true := by simpa using hn2
  have HN := Lib.hid hn
  have hcv : ∀ W, Below w.heap.size w W → W.cell? ⟨g, 1, none⟩ = some (.int .i64 n) ∧ (convert 63 9 (.slice (some ⟨g, 2, none⟩) 2 2)).run Try.prog W = .ok (.string (bs [b0, b1])) W := by
    intro W hW
    have hB := hk.below hW hk.lt
    refine ⟨hB.cell_ 1 rfl, run_convert_bytes_back W 63 9 5 ⟨g, 2, none⟩ 2 [b0, b1] Try.underlying63 Try.underlying5 Try.underlying9 ?_⟩
    intro j hj
    have : j = 0 ∨ j = 1 := by simp at hj; omega
    rcases this with rfl | rfl
    · exact hB.cell_ 2 rfl
    · exact hB.cell_ 3 rfl
  have HS := Lib.hid hcv
  have c1 := hk.cell_ 1 rfl
  clear hcv hn hk hc ht h0 h1
  go_enter Try.func56, Try.ntmps56
  go_wp2_with fail
  go_region_held3 (fun w' => Below w.heap.size w w' ∧ w'.cell? ⟨g, 1, none⟩ = some (.int .i64 n) ∧ (convert 63 9 (.slice (some ⟨g, 2, none⟩) 2 2)).run Try.prog w' = .ok (.string (bs [b0, b1])) w') ((refine bothp ?_ (HS.out _); first | exact (Below.refl _ _).drew | exact held_step2 (And.left ‹Below w.heap.size w _ ∧ _›) b3 | exact below_grown (And.left ‹Below w.heap.size w _ ∧ _›) b4 (And.left ‹Below w.heap.size w _ ∧ _›).size hg3))
    (first
      | (go_at_call 22; refine (new_any [b0, b1] _).mono ?_; rintro e w3 ⟨rfl, h3, b3⟩; have hg3 := (And.left ‹Below w.heap.size w _ ∧ _›).size)
      | (go_at_call 24; refine (num2s _ [b0, b1] _ h3 (by simp [maxLen]) (by simp)).mono ?_; rintro e w4 ⟨rfl, h4, b4⟩))
  have hfin := And.left ‹Below w.heap.size w _ ∧ _›
  go_wp2_with fail
  go_ret
  refine RetB.mk (ret_bool ?_) hfin
  rw [IntWalk.i64_in _ (by omega)]
  have := HN.out
  simp only [List.length_cons] at this
  simp only [wholeB, List.length_cons, List.take_succ_cons, List.take_zero]
  rw [Bool.eq_iff_iff]
  simp only [decide_eq_true_eq, Bool.and_eq_true]
  constructor
  · intro hh
    refine ⟨by omega, decide_eq_true ?_⟩
    omega
  · rintro ⟨_, hh⟩
    have := of_decide_eq_true hh
    omega

theorem whole_any (g : Nat) (p : List UInt8) (w : World) (h : JoinAt w g p) (hm : p.length ≤ 281474976710656) : Calls Try.prog 56 #[.pointer (some ⟨g, 0, none⟩)] w (RetB (.bool (wholeB p)) w) := by
  rcases p with _ | ⟨a, p⟩
  · exact whole_no g [] w h (by simp)
  · rcases p with _ | ⟨b, p⟩
    · exact whole_no g [a] w h (by simp)
    · exact whole_two g a b p w h (by simp at hm; omega)
end Go.Proofs.Ytokcfkfkpcgliaa
