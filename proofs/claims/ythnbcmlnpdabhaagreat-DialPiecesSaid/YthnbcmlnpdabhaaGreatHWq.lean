/-
  Layer 28 (dial), plain: what a dial does, and what it comes to.
-/
import Derived.Test.YthnbcmlnpdabhaaGreatHVq
import Derived.Test.YthnbcmlnpdabhaaGreatHQq
import Derived.Test.YthnbcmlnpdabhaaGreatAsk3q
namespace Go.Proofs.YthnbcmlnpdabhaaGreat
open _root_.Go.Proofs.Tryz
open Go.RowKit
set_option linter.unusedVariables false
structure Ou where
 kind : Int
 to_ : Adr
 port : Int
 data : List UInt8
deriving DecidableEq
structure Dl where
 y : Qy
 oct : List UInt8
 st : Int
 op : Bool
 heard : List UInt8
 msg : Msg
def octP (y : Qy) : List UInt8 := (encM (askM y.q y.id false) false).1
def errP (y : Qy) : Int := (encM (askM y.q y.id false) false).2
def newD (y : Qy) : Dl × List Ou := if errP y = 0 then (⟨y, putB 2 (octP y).length ++ octP y, 0, false, [], Msg.zero⟩, [⟨2, y.sv, y.port, []⟩]) else (⟨y, [], 2, false, [], Msg.zero⟩, [])
def firstA (y : Qy) : List (List UInt8) → Option Msg
 | [] => none
 | s :: l => if (frameP y (decM s)).2 then some (frameP y (decM s)).1 else firstA y l
theorem firstA_app (y : Qy) (a b : List (List UInt8)) : firstA y (a ++ b) = match firstA y a with
  | some m => some m
  | none => firstA y b := by
 induction a with
 | nil => rfl
 | cons s a ih =>
  show (if _ then _ else firstA y (a ++ b)) = match (if _ then _ else firstA y a) with | some m => some m | none => firstA y b
  split
  ·
   rfl
  ·
   exact ih
def hearD (d : Dl) (e : Ev) : Dl × List Ou :=
 if d.st ≠ 0 ∨ e.port ≠ d.y.port then (d, [])
 else if e.kind = 3 then (if d.op then (d, []) else ({ d with op := true }, [⟨3, d.y.sv, d.y.port, d.oct⟩]))
 else if e.kind = 4 then (if d.op then (match firstA d.y (frames (d.heard ++ e.data)) with
   | some m => ({ d with heard := d.heard ++ e.data, msg := m, st := 1 }, [⟨4, d.y.sv, d.y.port, []⟩])
   | none => ({ d with heard := d.heard ++ e.data }, [])) else (d, []))
 else if e.kind = 5 then ({ d with st := 2 }, []) else (d, [])
def Dl.ok (d : Dl) : Prop := d.st = 0 → firstA d.y (frames d.heard) = none
theorem hearD_y (d : Dl) (e : Ev) : (hearD d e).1.y = d.y := by
 unfold hearD
 (repeat' split) <;> rfl
theorem firstA_rest (d : Dl) (h : d.ok) (h0 : d.st = 0) (s : List UInt8) : firstA d.y (frames (d.heard ++ s)) = firstA d.y (frames (restF d.heard ++ s)) ∧ restF (d.heard ++ s) = restF (restF d.heard ++ s) := by
 obtain ⟨h1, h2⟩ := frames_app d.heard.length d.heard s (Nat.le_refl _)
 refine ⟨?_, h2⟩
 rw [h1, firstA_app, h h0]
set_option maxRecDepth 100000
set_option linter.unusedSimpArgs false
def ouC (o : Ou) : List Value := .int .i64 o.kind :: (o.to_.cells ++ [.int .i64 o.port, .string (bs o.data)])
theorem ouC_len {o : Ou} (h : o.to_.ip.length = 16) : (ouC o).length = 21 := by simp [ouC, o.to_.cells_len h]
theorem ouC_at {o : Ou} (h : o.to_.ip.length = 16) (k : Nat) : (ouC o)[19 + k]? = [Value.int .i64 o.port, .string (bs o.data)][k]? := by
 unfold ouC
 rw [show 19 + k = (18 + k) + 1 by omega, List.getElem?_cons_succ, List.getElem?_append_right (by rw [o.to_.cells_len h]; omega), o.to_.cells_len h, Nat.add_sub_cancel_left]
def OusR (w : World) (A : Option Addr) (l : List Ou) : Prop := (∀ o ∈ l, o.to_.ip.length = 16) ∧ (0 < l.length → ∃ b off, A = some ⟨b, off, none⟩ ∧ b < w.heap.size ∧ ∀ i (hi : i < l.length), w.rangeAt b (off + i * 21) (ouC l[i]))
theorem OusR.below {w w' : World} {A : Option Addr} {l : List Ou} (h : OusR w A l) (hb : Below w.heap.size w w') : OusR w' A l := by
 refine ⟨h.1, fun hp => ?_⟩
 obtain ⟨b, off, h1, h2, h3⟩ := h.2 hp
 exact ⟨b, off, h1, Nat.lt_of_lt_of_le h2 hb.size, fun i hi => range_below (h3 i hi) hb h2⟩
theorem OusR.nil (w : World) (A : Option Addr) : OusR w A [] := ⟨by simp, fun h => absurd h (by simp)⟩
theorem OusR.grown {w w' : World} {A : Option Addr} {l : List Ou} {g : Nat} (h : OusR w A l) (hg : w.grownBy w' (some g)) (hA : ∀ b, A = some b → b.block ≠ g) : OusR w' A l := by
 refine ⟨h.1, fun hp => ?_⟩
 obtain ⟨b, off, h1, h2, h3⟩ := h.2 hp
 refine ⟨b, off, h1, Nat.lt_of_lt_of_le h2 hg.size, fun i hi j v hv => ?_⟩
 rw [← h3 i hi j v hv]
 exact grown_cell hg ⟨b, _, none⟩ h2 (by intro e; injection e with e; exact hA _ h1 e)
def Heard (y : Qy) (s : List UInt8) (d : Dl) : Prop := d.y = y ∧ ((∃ m, firstA y (frames s) = some m ∧ d.st = 1 ∧ d.msg = m) ∨ (firstA y (frames s) = none ∧ d.st = 0 ∧ d.op = true ∧ d.heard = s ∧ d.msg = Msg.zero))
theorem firstA_more {y : Qy} {s t : List UInt8} {m : Msg} (h : firstA y (frames s) = some m) : firstA y (frames (s ++ t)) = some m := by
 rw [(frames_app s.length s t (Nat.le_refl _)).1, firstA_app, h]
theorem Heard.step {y : Qy} {s : List UInt8} {d : Dl} (h : Heard y s d) (e : Ev) (hk : e.kind = 4) (hp : e.port = y.port) : Heard y (s ++ e.data) (hearD d e).1 := by
 obtain ⟨rfl, h⟩ := h
 refine ⟨hearD_y d e, ?_⟩
 rcases h with ⟨m, h1, h2, h3⟩ | ⟨h1, h2, h3, h4, h5⟩
 ·
  left
  refine ⟨m, firstA_more h1, ?_, ?_⟩
  ·
   unfold hearD; rw [if_pos (.inl (by rw [h2]; decide))]; exact h2
  ·
   unfold hearD; rw [if_pos (.inl (by rw [h2]; decide))]; exact h3
 ·
  have e0 : ¬ (d.st ≠ 0 ∨ e.port ≠ d.y.port) := by rw [h2, hp]; simp
  unfold hearD
  rw [if_neg e0, if_neg (by rw [hk]; decide), if_pos hk, if_pos h3, h4]
  cases hf : firstA d.y (frames (s ++ e.data)) with
  | some m => exact .inl ⟨m, rfl, rfl, rfl⟩
  | none => exact .inr ⟨rfl, h2, h3, rfl, h5⟩
theorem heard_open {y : Qy} (h : errP y = 0) (e : Ev) (hk : e.kind = 3) (hp : e.port = y.port) : Heard y [] (hearD (newD y).1 e).1 := by
 have e1 : (newD y).1 = ⟨y, putB 2 (octP y).length ++ octP y, 0, false, [], Msg.zero⟩ := by unfold newD; rw [if_pos h]
 rw [e1]
 have e0 : ¬ ((0 : Int) ≠ 0 ∨ e.port ≠ y.port) := by rw [hp]; simp
 unfold hearD
 rw [if_neg e0, if_pos hk, if_neg (by simp)]
 refine ⟨rfl, .inr ⟨?_, rfl, rfl, rfl, rfl⟩⟩
 rw [(frames_no [] (by simp [wholeB])).1]; rfl
theorem Heard.same {y : Qy} {s : List UInt8} {d d' : Dl} (h : Heard y s d) (h' : Heard y s d') : d.st = d'.st ∧ d.msg = d'.msg := by
 obtain ⟨_, h⟩ := h
 obtain ⟨_, h'⟩ := h'
 rcases h with ⟨m, h1, h2, h3⟩ | ⟨h1, h2, _, _, h5⟩ <;> rcases h' with ⟨m', h1', h2', h3'⟩ | ⟨h1', h2', _, _, h5'⟩
 ·
  rw [h1] at h1'; injection h1' with h1'; exact ⟨by rw [h2, h2'], by rw [h3, h3', h1']⟩
 ·
  rw [h1] at h1'; cases h1'
 ·
  rw [h1] at h1'; cases h1'
 ·
  exact ⟨by rw [h2, h2'], by rw [h5, h5']⟩
theorem Heard.got {y : Qy} {s : List UInt8} {d : Dl} (h : Heard y s d) : (d.st == 1) = (firstA y (frames s)).isSome := by
 obtain ⟨_, h⟩ := h
 rcases h with ⟨m, h1, h2, h3⟩ | ⟨h1, h2, _⟩
 ·
  rw [h1, h2]; rfl
 ·
  rw [h1, h2]; rfl
theorem Heard.msg_of {y : Qy} {s : List UInt8} {d : Dl} {m : Msg} (h : Heard y s d) (hm : firstA y (frames s) = some m) : d.msg = m := by
 obtain ⟨_, h⟩ := h
 rcases h with ⟨m', h1, h2, h3⟩ | ⟨h1, h2, _⟩
 ·
  rw [h1] at hm; injection hm with hm; rw [h3, hm]
 ·
  rw [h1] at hm; cases hm
theorem firstA_take_no {y : Qy} {l : List (List UInt8)} {k : Nat} (hk : k < l.length) (h : firstA y (l.take k) = none) (hf : (frameP y (decM l[k])).2 = false) : firstA y (l.take (k + 1)) = none := by
 rw [List.take_succ_eq_append_getElem hk, firstA_app, h]
 show (if (frameP y (decM l[k])).2 then _ else _) = _
 rw [hf]; rfl
theorem firstA_take_yes {y : Qy} {l : List (List UInt8)} {k : Nat} (hk : k < l.length) (h : firstA y (l.take k) = none) (hf : (frameP y (decM l[k])).2 = true) : firstA y l = some (frameP y (decM l[k])).1 := by
 have e1 : firstA y (l.take (k + 1)) = some (frameP y (decM l[k])).1 := by
  rw [List.take_succ_eq_append_getElem hk, firstA_app, h]
  show (if (frameP y (decM l[k])).2 then _ else _) = _
  rw [hf]; rfl
 have e2 := firstA_app y (l.take (k + 1)) (l.drop (k + 1))
 rw [List.take_append_drop, e1] at e2
 exact e2
end Go.Proofs.YthnbcmlnpdabhaaGreat
