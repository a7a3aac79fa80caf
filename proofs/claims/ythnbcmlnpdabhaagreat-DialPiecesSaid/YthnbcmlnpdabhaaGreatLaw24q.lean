/-
  Layer 24, the laws' own: works; AskOwn.
-/
import Derived.Test.YthnbcmlnpdabhaaGreatAsk3q
namespace Go.Proofs.YthnbcmlnpdabhaaGreat
open _root_.Go.Proofs.Tryz
open Go.RowKit
set_option maxRecDepth 100000
set_option linter.unusedVariables false
set_option linter.unusedSimpArgs false
def xs (n : List (List UInt8)) (k : Nat) : List (List UInt8) := (n.take k).map (· ++ [120]) ++ n.drop k
end Go.Proofs.YthnbcmlnpdabhaaGreat
