/-
  Layer 11 (head): a head and its counts, read.
-/
import Derived.Test.YtkcbffldncmbcaaGreatDoorGAq
namespace Go.Proofs.YtkcbffldncmbcaaGreatDoor
open _root_.Go.Proofs.Tryz
open Go.RowKit
set_option maxRecDepth 100000
structure Hd where
 id : Int
 qr : Bool
 op : Int
 aa : Bool
 tc : Bool
 rd : Bool
 ra : Bool
 ad : Bool
 cd : Bool
 rc : Int
deriving DecidableEq
def Hd.vals (h : Hd) : List Value := [.int .i64 h.id, .bool h.qr, .int .i64 h.op, .bool h.aa, .bool h.tc, .bool h.rd, .bool h.ra, .bool h.ad, .bool h.cd, .int .i64 h.rc]
def Hd.agg (h : Hd) : Value := .agg #[.int .i64 h.id, .bool h.qr, .int .i64 h.op, .bool h.aa, .bool h.tc, .bool h.rd, .bool h.ra, .bool h.ad, .bool h.cd, .int .i64 h.rc]
def Hd.zero : Hd := ⟨0, false, 0, false, false, false, false, false, false, 0⟩
def at2 (l : List UInt8) (k : Nat) : Nat := numB ((l.drop k).take 2)
def bitv (n : Nat) (k : Nat) : Bool := n / k % 2 == 1
def hdOf (id n : Nat) : Hd := ⟨id, bitv n 32768, (n : Int) / 2048 % 16, bitv n 1024, bitv n 512, bitv n 256, bitv n 128, bitv n 32, bitv n 16, (n : Int) % 16⟩
def Hd.ok (h : Hd) : Bool := decide (0 ≤ h.id ∧ h.id ≤ 65535) && decide (0 ≤ h.op ∧ h.op ≤ 15) && decide (0 ≤ h.rc ∧ h.rc ≤ 15)
end Go.Proofs.YtkcbffldncmbcaaGreatDoor
