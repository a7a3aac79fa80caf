/-
  Layer 28, the reference: Hear.
-/
import Derived.Test.YthnbcmlnpdabhaaGreatHYq
import Derived.Test.YthnbcmlnpdabhaaGreatDc5q
namespace Go.Proofs.YthnbcmlnpdabhaaGreat
open _root_.Go.Proofs.Tryz
open Go.RowKit
set_option maxRecDepth 100000
set_option linter.unusedVariables false
set_option linter.unusedSimpArgs false
end Go.Proofs.YthnbcmlnpdabhaaGreat
