/-
  Layer 13 (rdata): has, an SOA; has of any record.
-/
import Derived.Test.YtkcbffldncmbcaaGreatDoorHRq
namespace Go.Proofs.YtkcbffldncmbcaaGreatDoor
open _root_.Go.Proofs.Tryz
open Go.RowKit
set_option maxRecDepth 100000
set_option linter.unusedVariables false
set_option linter.unusedSimpArgs false
abbrev Tab := List (List (List UInt8) × Nat)
end Go.Proofs.YtkcbffldncmbcaaGreatDoor
