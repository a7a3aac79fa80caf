/-
  Layer 15 (stream), the plain law: the frames that octets begin with.
-/
import Derived.Test.YtkcbffldncmbcaaGreatDoorGAq
namespace Go.Proofs.YtkcbffldncmbcaaGreatDoor
open _root_.Go.Proofs.Tryz
open Go.RowKit
def wholeB (p : List UInt8) : Bool := decide (2 ≤ p.length) && decide (numB (p.take 2) ≤ p.length - 2)
def msg1 (s : List UInt8) : List UInt8 := (s.drop 2).take (numB (s.take 2))
def rest1 (s : List UInt8) : List UInt8 := s.drop (2 + numB (s.take 2))
def frF : Nat → List UInt8 → List (List UInt8) × List UInt8
 | 0, s => ([], s)
 | k + 1, s => if wholeB s then (msg1 s :: (frF k (rest1 s)).1, (frF k (rest1 s)).2) else ([], s)
def frames (s : List UInt8) : List (List UInt8) := (frF s.length s).1
end Go.Proofs.YtkcbffldncmbcaaGreatDoor
