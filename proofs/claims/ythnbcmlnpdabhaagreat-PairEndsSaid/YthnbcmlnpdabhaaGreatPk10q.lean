/-
  Layer 12, the reference: Put.
-/
import Derived.Test.YthnbcmlnpdabhaaGreatGFq
namespace Go.Proofs.YthnbcmlnpdabhaaGreat
open _root_.Go.Proofs.Tryz
open Go.RowKit
set_option maxRecDepth 100000
set_option linter.unusedVariables false
def KeepR (lo : Nat) (w w' : World) : Prop := Below lo w w' ∧ ∀ k t cs, Blk w k t cs → t ≠ 208 → t ≠ 273 → Blk w' k t cs
theorem ret_str2 {a b : List UInt8} {e : Int} (h : a = b) : Ending.returned (.tuple #[.string (bs a), .int .i64 e]) = .returned (.tuple #[.string (bs b), .int .i64 e]) := by rw [h]
end Go.Proofs.YthnbcmlnpdabhaaGreat
