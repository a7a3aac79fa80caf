/-
  Layer 28 (dial), plain: what a dial does, and what it comes to.
-/
import Derived.Test.YthnbcmlnpdabhaaGreatHVq
import Derived.Test.YthnbcmlnpdabhaaGreatHQq
import Derived.Test.YthnbcmlnpdabhaaGreatAsk3q
namespace Go.Proofs.YthnbcmlnpdabhaaGreat
open _root_.Go.Proofs.Tryz
open Go.RowKit
set_option linter.unusedVariables false
structure Ou where
 kind : Int
 to_ : Adr
 port : Int
 data : List UInt8
deriving DecidableEq
structure Dl where
 y : Qy
 oct : List UInt8
 st : Int
 op : Bool
 heard : List UInt8
 msg : Msg
def octP (y : Qy) : List UInt8 := (encM (askM y.q y.id false) false).1
def errP (y : Qy) : Int := (encM (askM y.q y.id false) false).2
def newD (y : Qy) : Dl × List Ou := if errP y = 0 then (⟨y, putB 2 (octP y).length ++ octP y, 0, false, [], Msg.zero⟩, [⟨2, y.sv, y.port, []⟩]) else (⟨y, [], 2, false, [], Msg.zero⟩, [])
def firstA (y : Qy) : List (List UInt8) → Option Msg
 | [] => none
 | s :: l => if (frameP y (decM s)).2 then some (frameP y (decM s)).1 else firstA y l
theorem firstA_app (y : Qy) (a b : List (List UInt8)) : firstA y (a ++ b) = match firstA y a with
  | some m => some m
  | none => firstA y b := by
 induction a with
 | nil => rfl
 | cons s a ih =>
  show (if _ then _ else firstA y (a ++ b)) = match (if _ then _ else firstA y a) with | some m => some m | none => firstA y b
  split
  ·
   rfl
  ·
   exact ih
def hearD (d : Dl) (e : Ev) : Dl × List Ou :=
 if d.st ≠ 0 ∨ e.port ≠ d.y.port then (d, [])
 else if e.kind = 3 then (if d.op then (d, []) else ({ d with op := true }, [⟨3, d.y.sv, d.y.port, d.oct⟩]))
 else if e.kind = 4 then (if d.op then (match firstA d.y (frames (d.heard ++ e.data)) with
   | some m => ({ d with heard := d.heard ++ e.data, msg := m, st := 1 }, [⟨4, d.y.sv, d.y.port, []⟩])
   | none => ({ d with heard := d.heard ++ e.data }, [])) else (d, []))
 else if e.kind = 5 then ({ d with st := 2 }, []) else (d, [])
def hangD (d : Dl) : Dl × List Ou := if d.st ≠ 0 then (d, []) else ({ d with st := 2 }, [⟨4, d.y.sv, d.y.port, []⟩])
def Dl.ok (d : Dl) : Prop := d.st = 0 → firstA d.y (frames d.heard) = none
theorem newD_ok (y : Qy) : (newD y).1.ok := by
 unfold newD
 split
 ·
  intro _
  show firstA y (frames []) = none
  rw [(frames_no [] (by simp [wholeB])).1]; rfl
 ·
  intro h; cases h
theorem hearD_ok (d : Dl) (e : Ev) (h : d.ok) : (hearD d e).1.ok := by
 unfold hearD
 split
 ·
  exact h
 ·
  split
  ·
   split <;> exact h
  ·
   split
   ·
    split
    ·
     split
     ·
      intro h; cases h
     ·
      rename_i hn; intro _; exact hn
    ·
     exact h
   ·
    split
    ·
     intro h; cases h
    ·
     exact h
theorem hearD_y (d : Dl) (e : Ev) : (hearD d e).1.y = d.y := by
 unfold hearD
 (repeat' split) <;> rfl
theorem firstA_rest (d : Dl) (h : d.ok) (h0 : d.st = 0) (s : List UInt8) : firstA d.y (frames (d.heard ++ s)) = firstA d.y (frames (restF d.heard ++ s)) ∧ restF (d.heard ++ s) = restF (restF d.heard ++ s) := by
 obtain ⟨h1, h2⟩ := frames_app d.heard.length d.heard s (Nat.le_refl _)
 refine ⟨?_, h2⟩
 rw [h1, firstA_app, h h0]
set_option maxRecDepth 100000
set_option linter.unusedSimpArgs false
def ouC (o : Ou) : List Value := .int .i64 o.kind :: (o.to_.cells ++ [.int .i64 o.port, .string (bs o.data)])
theorem ouC_len {o : Ou} (h : o.to_.ip.length = 16) : (ouC o).length = 21 := by simp [ouC, o.to_.cells_len h]
theorem ouC_one {o : Ou} : ∀ v ∈ ouC o, v.oneCell' = true := by
 intro v hv
 rcases List.mem_cons.1 hv with rfl | hv
 ·
  rfl
 rcases List.mem_append.1 hv with hv | hv
 ·
  exact o.to_.cells_one v hv
 ·
  simp only [List.mem_cons, List.not_mem_nil, or_false] at hv
  rcases hv with rfl | rfl <;> rfl
def OusR (w : World) (A : Option Addr) (l : List Ou) : Prop := (∀ o ∈ l, o.to_.ip.length = 16) ∧ (0 < l.length → ∃ b off, A = some ⟨b, off, none⟩ ∧ b < w.heap.size ∧ ∀ i (hi : i < l.length), w.rangeAt b (off + i * 21) (ouC l[i]))
theorem firstA_take_no {y : Qy} {l : List (List UInt8)} {k : Nat} (hk : k < l.length) (h : firstA y (l.take k) = none) (hf : (frameP y (decM l[k])).2 = false) : firstA y (l.take (k + 1)) = none := by
 rw [List.take_succ_eq_append_getElem hk, firstA_app, h]
 show (if (frameP y (decM l[k])).2 then _ else _) = _
 rw [hf]; rfl
theorem firstA_take_yes {y : Qy} {l : List (List UInt8)} {k : Nat} (hk : k < l.length) (h : firstA y (l.take k) = none) (hf : (frameP y (decM l[k])).2 = true) : firstA y l = some (frameP y (decM l[k])).1 := by
 have e1 : firstA y (l.take (k + 1)) = some (frameP y (decM l[k])).1 := by
  rw [List.take_succ_eq_append_getElem hk, firstA_app, h]
  show (if (frameP y (decM l[k])).2 then _ else _) = _
  rw [hf]; rfl
 have e2 := firstA_app y (l.take (k + 1)) (l.drop (k + 1))
 rw [List.take_append_drop, e1] at e2
 exact e2
theorem newD_len (y : Qy) : (newD y).2.length ≤ 1 := by unfold newD; split <;> simp
theorem hearD_len (d : Dl) (e : Ev) : (hearD d e).2.length ≤ 1 := by unfold hearD; (repeat' split) <;> simp
theorem hangD_len (d : Dl) : (hangD d).2.length ≤ 1 := by unfold hangD; split <;> simp
theorem newD_y (y : Qy) : (newD y).1.y = y := by unfold newD; split <;> rfl
theorem hearD_heard (d : Dl) (e : Ev) : (hearD d e).1.heard.length ≤ d.heard.length + e.data.length := by
 unfold hearD
 (repeat' split) <;> simp
end Go.Proofs.YthnbcmlnpdabhaaGreat
