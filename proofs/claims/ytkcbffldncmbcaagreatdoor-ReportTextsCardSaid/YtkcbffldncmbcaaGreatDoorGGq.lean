/-
  Layer 12 (packed): what a name's reading comes to, plainly; octet and label.
-/
import Derived.Test.YtkcbffldncmbcaaGreatDoorGAq
namespace Go.Proofs.YtkcbffldncmbcaaGreatDoor
open _root_.Go.Proofs.Tryz
open Go.RowKit
set_option maxRecDepth 100000
set_option linter.unusedVariables false
structure GS where
 at' : Nat
 size : Nat
 bound : Nat
 behind : Option Nat
 acc : List (List UInt8)
inductive GO where
 | go (s : GS)
 | err (e : Int)
 | ok (l : List (List UInt8)) (n : Nat)
def gstep (m : List UInt8) (s : GS) : GO :=
 if m.length ≤ s.at' then .err 1
 else if (m.getD s.at' 0).toNat = 0 then .ok s.acc (s.behind.getD (s.at' + 1))
 else if (m.getD s.at' 0).toNat ≤ 63 then
  if m.length < s.at' + 1 + (m.getD s.at' 0).toNat then .err 1
  else if 255 < s.size + ((m.getD s.at' 0).toNat + 1) then .err 3
  else .go { s with at' := s.at' + 1 + (m.getD s.at' 0).toNat, size := s.size + ((m.getD s.at' 0).toNat + 1), acc := s.acc ++ [(m.take (s.at' + 1 + (m.getD s.at' 0).toNat)).drop (s.at' + 1)] }
 else if (m.getD s.at' 0).toNat < 192 then .err 7
 else if m.length ≤ s.at' + 1 then .err 1
 else if s.bound ≤ (m.getD s.at' 0).toNat * 256 + (m.getD (s.at' + 1) 0).toNat - 49152 then .err 9
 else .go { s with at' := (m.getD s.at' 0).toNat * 256 + (m.getD (s.at' + 1) 0).toNat - 49152, bound := (m.getD s.at' 0).toNat * 256 + (m.getD (s.at' + 1) 0).toNat - 49152, behind := some (s.behind.getD (s.at' + 2)) }
section
variable {m : List UInt8} {at' size bound c : Nat} {behind : Option Nat} {acc : List (List UInt8)}
end
def gres (m : List UInt8) : Nat → GS → GO
 | 0, _ => .err 15
 | k + 1, s => match gstep m s with
  | .go s' => gres m k s'
  | .err e => .err e
  | .ok l n => .ok l n
def gresAt (m : List UInt8) (a : Nat) : GO := gres m (a * 300 + 300) ⟨a, 1, a, none, []⟩
def outR (m : List UInt8) (at_ : Int) : Bool := decide (at_ < 0) || decide ((m.length : Int) < at_)
def pget (m : List UInt8) (at_ : Int) : GO := if outR m at_ then .err 4 else gresAt m at_.toNat
end Go.Proofs.YtkcbffldncmbcaaGreatDoor
