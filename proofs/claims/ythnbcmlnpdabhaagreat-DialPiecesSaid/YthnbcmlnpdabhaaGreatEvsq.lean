/-
  Lists of events: as cells; what the reading of one says of its cells; Few.
-/
import Derived.Test.YthnbcmlnpdabhaaGreatHQq
namespace Go.Proofs.YthnbcmlnpdabhaaGreat
open _root_.Go.Proofs.Tryz
open Go.ChangeShapes Go.WideShapes Go.ChangeAt Go.RowKit
set_option maxRecDepth 100000
set_option linter.unusedVariables false
set_option linter.unusedSimpArgs false
section
variable {H : Type} {enc : TypeId × Value → H} {w : World} {cs : List Value}
end
end Go.Proofs.YthnbcmlnpdabhaaGreat
