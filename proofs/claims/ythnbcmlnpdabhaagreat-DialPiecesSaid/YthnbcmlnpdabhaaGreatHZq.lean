/-
  Layer 28 (dial): what an event leaves; what stays of one dial when the other is called.
-/
import Derived.Test.YthnbcmlnpdabhaaGreatDr3q
import Derived.Test.YthnbcmlnpdabhaaGreatEvsq
namespace Go.Proofs.YthnbcmlnpdabhaaGreat
open _root_.Go.Proofs.Tryz
open Go.RowKit
set_option maxRecDepth 100000
set_option linter.unusedVariables false
set_option linter.unusedSimpArgs false
theorem newD_heard (y : Qy) : (newD y).1.heard = [] := by unfold newD; split <;> rfl
theorem DialAt.blk {w : World} {g : Nat} {d : Dl} (h : DialAt w g d) : ∃ L, Blk w g 152 L := by
 obtain ⟨p, hJ, _⟩ := h
 obtain ⟨vn, L, ds, hb, _⟩ := hJ.blk
 exact ⟨L, hb⟩
theorem NmR.off {w : World} {A : Option Addr} {c g : Nat} {n : List (List UInt8)} (h : NmR w A c n) (hg : w.heap.size ≤ g) : 0 < n.length → ∀ a, A = some a → a.block ≠ g := by
 intro hp a ha
 obtain ⟨b, off, h1, h2, _⟩ := h.1 hp
 rw [h1] at ha
 injection ha with ha
 subst ha
 show b ≠ g
 omega
end Go.Proofs.YthnbcmlnpdabhaaGreat
