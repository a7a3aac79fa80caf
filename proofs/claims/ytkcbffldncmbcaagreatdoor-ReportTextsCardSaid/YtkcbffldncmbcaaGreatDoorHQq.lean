/-
  Layer 13, the laws' own: Small.
-/
import Derived.Test.YtkcbffldncmbcaaGreatDoorHAq
import Derived.Test.YtkcbffldncmbcaaGreatDoorHSq
import Derived.Test.YtkcbffldncmbcaaGreatDoorHGq
namespace Go.Proofs.YtkcbffldncmbcaaGreatDoor
open _root_.Go.Proofs.Tryz
open Go.RowKit
set_option maxRecDepth 100000
set_option linter.unusedVariables false
set_option linter.unusedSimpArgs false
def low8 (c : UInt8) : UInt8 := if 65 ≤ c.toNat ∧ c.toNat ≤ 90 then UInt8.ofNat (c.toNat + 32) else c
def lowT (l : List UInt8) : List UInt8 := l.map low8
def lowN (n : List (List UInt8)) : List (List UInt8) := n.map lowT
structure Qy where
 sv : Adr
 port : Int
 id : Int
 q : Qn
section
variable {vn : Value} {y : Qy}
end
def fitQ (x y : Qn) : Bool := decide (x.ty = y.ty) && (decide (x.cl = y.cl) && decide (lowN x.name = lowN y.name))
def replyB (y : Qy) (m : Msg) : Bool := m.hd.qr && (decide (m.hd.op = 0) && (decide (m.hd.id = y.id) && match m.qs with
 | [x] => fitQ x y.q
 | _ => false))
def frameP (y : Qy) (o : Except Int Msg) : Msg × Bool := match o with
 | .ok m => if replyB y m then (m, true) else (Msg.zero, false)
 | .error _ => (Msg.zero, false)
end Go.Proofs.YtkcbffldncmbcaaGreatDoor
