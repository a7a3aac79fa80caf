/-
  Layer 12, the reference: Put.
-/
import Derived.Test.YthnbcmlnpdabhaaGreatGFq
namespace Go.Proofs.YthnbcmlnpdabhaaGreat
open _root_.Go.Proofs.Tryz
open Go.RowKit
set_option maxRecDepth 100000
set_option linter.unusedVariables false
def TQ (lo : Nat) (w w' : World) : Prop := Below lo w w' /\ ∀ k t cs, nj w k t cs -> t ≠ 208 -> t ≠ 273 -> nj w' k t cs
theorem OR {a b : List UInt8} {e : Int} (h : a = b) : Ending.returned (.tuple #[.string (bs a), .int .i64 e]) = .returned (.tuple #[.string (bs b), .int .i64 e]) := by rw [h]
end Go.Proofs.YthnbcmlnpdabhaaGreat
