/-
  What octets say, plainly: names, numbers, records' data, questions, records, messages.
-/
import Derived.Test.YtkcbffldncmbcaaGreatDoorHUq
import Derived.Test.YtkcbffldncmbcaaGreatDoorHSq
namespace Go.Proofs.YtkcbffldncmbcaaGreatDoor
open _root_.Go.Proofs.Tryz
set_option linter.unusedVariables false
set_option linter.unusedSimpArgs false
def nameAt (m : List UInt8) (p : Nat) : Except Int (List (List UInt8) × Nat) := match pget m p with
 | .ok l n => .ok (l, n)
 | .err e => .error e
 | .go _ => .error 0
def nameE (m : List UInt8) (p : Nat) : Except Int (List (List UInt8) × Nat) := match nameAt m p with
 | .ok x => .ok x
 | .error e => .error (if e = 1 then 5 else e)
def numAt (m : List UInt8) (k p : Nat) : Except Int (Nat × Nat) := if m.length < p + k then .error 1 else .ok (numB ((m.take (p + k)).drop p), p + k)
def targAt (s : List UInt8) (p : Nat) : Except Int (List (List UInt8)) := match nameE s p with
 | .error e => .error e
 | .ok (l, q) => if q = s.length then .ok l else .error 5
def numsAt (s : List UInt8) (p : Nat) : List Int := [(numB ((s.drop p).take 4) : Int), (numB ((s.drop (p + 4)).take 4) : Int), (numB ((s.drop (p + 8)).take 4) : Int), (numB ((s.drop (p + 12)).take 4) : Int), (numB ((s.drop (p + 16)).take 4) : Int)]
def getR (m : List UInt8) (a n : Nat) (ty cl : Int) : Except Int RR :=
 if kindR ty cl = 1 then (if n = 4 then .ok { RR.zero with ad := ⟨4, (m.take (a + n)).drop a ++ List.replicate 12 0, 0⟩ } else .error 5)
 else if kindR ty cl = 28 then (if n = 16 then .ok { RR.zero with ad := ⟨6, (m.take (a + n)).drop a, 0⟩ } else .error 5)
 else if kindR ty cl = 5 ∨ kindR ty cl = 12 then (match targAt (m.take (a + n)) a with
  | .error e => .error e
  | .ok l => .ok { RR.zero with tg := l })
 else if kindR ty cl = 33 then (if n < 6 then .error 5 else match targAt (m.take (a + n)) (a + 6) with
  | .error e => .error e
  | .ok l => .ok { RR.zero with pri := numB (((m.take (a + n)).drop a).take 2), we := numB ((((m.take (a + n)).drop a).drop 2).take 2), po := numB ((((m.take (a + n)).drop a).drop 4).take 2), tg := l })
 else if kindR ty cl = 6 then (match nameE (m.take (a + n)) a with
  | .error e => .error e
  | .ok (l, p) => match nameE (m.take (a + n)) p with
   | .error e => .error e
   | .ok (l', q) => if q + 20 = (m.take (a + n)).length then .ok { RR.zero with tg := l, ml := l', nums := numsAt (m.take (a + n)) q } else .error 5)
 else .ok { RR.zero with raw := (m.take (a + n)).drop a }
def questAt (m : List UInt8) (p : Nat) : Except Int (Qn × Nat) := match nameAt m p with
 | .error e => .error e
 | .ok (n, p) => match numAt m 2 p with
  | .error e => .error e
  | .ok (ty, p) => match numAt m 2 p with
   | .error e => .error e
   | .ok (cl, p) => .ok (⟨n, ty, cl⟩, p)
def recAt (m : List UInt8) (p : Nat) : Except Int (RR × Nat) := match nameAt m p with
 | .error e => .error e
 | .ok (n, p) => match numAt m 2 p with
  | .error e => .error e
  | .ok (ty, p) => match numAt m 2 p with
   | .error e => .error e
   | .ok (cl, p) => match numAt m 4 p with
    | .error e => .error e
    | .ok (ttl, p) => match numAt m 2 p with
     | .error e => .error e
     | .ok (sz, p) => if m.length < p + sz then .error 1 else match getR m p sz ty cl with
      | .error e => .error e
      | .ok r => .ok ({ r with name := n, ty := ty, cl := cl, ttl := ttl }, p + sz)
def manyAt {α : Type} (f : Nat → Except Int (α × Nat)) : Nat → Nat → Except Int (List α × Nat)
 | 0, p => .ok ([], p)
 | k + 1, p => match f p with
  | .error e => .error e
  | .ok (x, p) => match manyAt f k p with
   | .error e => .error e
   | .ok (l, p) => .ok (x :: l, p)
def decM (m : List UInt8) : Except Int Msg :=
 if 65535 < m.length then .error 3
 else if m.length < 12 then .error 1
 else match manyAt (questAt m) (at2 m 4) 12 with
  | .error e => .error e
  | .ok (q, p) => match manyAt (recAt m) (at2 m 6) p with
   | .error e => .error e
   | .ok (a, p) => match manyAt (recAt m) (at2 m 8) p with
    | .error e => .error e
    | .ok (u, p) => match manyAt (recAt m) (at2 m 10) p with
     | .error e => .error e
     | .ok (x, p) => if p < m.length then .error 2 else .ok ⟨hdOf (at2 m 0) (at2 m 2), q, a, u, x⟩
open Go.RowKit
set_option maxRecDepth 100000
def Rows (w : World) : List (List Value) → List RR → Prop
 | [], [] => True
 | cs :: css, r :: l => RRis w cs r ∧ Rows w css l
 | _, _ => False
section
variable {α : Type} {R R' : List Value → α → Prop}
end
def Msg.zero : Msg := ⟨Hd.zero, [], [], [], []⟩
def strs (n : List (List UInt8)) : List Value := n.map fun t => Value.string (bs t)
end Go.Proofs.YtkcbffldncmbcaaGreatDoor
