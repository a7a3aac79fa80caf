/-
  The reference's layer 24: Message. ask.Build.
-/
import Derived.Test.YtkcbffldncmbcaaGreatDoorFrqq
import Derived.Test.YtkcbffldncmbcaaGreatDoorHQq
namespace Go.Proofs.YtkcbffldncmbcaaGreatDoor
open _root_.Go.Proofs.Tryz
open Go.RowKit
set_option maxRecDepth 100000
set_option linter.unusedVariables false
set_option linter.unusedSimpArgs false
structure Ou where
 kind : Int
 to_ : Adr
 port : Int
 data : List UInt8
deriving DecidableEq
structure Dl where
 y : Qy
 oct : List UInt8
 st : Int
 op : Bool
 heard : List UInt8
 msg : Msg
def firstA (y : Qy) : List (List UInt8) → Option Msg
 | [] => none
 | s :: l => if (frameP y (decM s)).2 then some (frameP y (decM s)).1 else firstA y l
def Dl.ok (d : Dl) : Prop := d.st = 0 → firstA d.y (frames d.heard) = none
def ouC (o : Ou) : List Value := .int .i64 o.kind :: (o.to_.cells ++ [.int .i64 o.port, .string (bs o.data)])
theorem ouC_len {o : Ou} (h : o.to_.ip.length = 16) : (ouC o).length = 21 := by simp [ouC, o.to_.cells_len h]
theorem ouC_ad {o : Ou} (h : o.to_.ip.length = 16) : ((ouC o).drop 1).take 18 = o.to_.cells := by
 show (o.to_.cells ++ _).take 18 = _
 exact List.take_left' (o.to_.cells_len h)
theorem ouC_at {o : Ou} (h : o.to_.ip.length = 16) (k : Nat) : (ouC o)[19 + k]? = [Value.int .i64 o.port, .string (bs o.data)][k]? := by
 unfold ouC
 rw [show 19 + k = (18 + k) + 1 by omega, List.getElem?_cons_succ, List.getElem?_append_right (by rw [o.to_.cells_len h]; omega), o.to_.cells_len h, Nat.add_sub_cancel_left]
end Go.Proofs.YtkcbffldncmbcaaGreatDoor
