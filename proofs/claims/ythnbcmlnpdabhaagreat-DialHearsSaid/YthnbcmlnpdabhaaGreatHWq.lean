/-
  Layer 28 (dial), plain: what a dial does, and what it comes to.
-/
import Derived.Test.YthnbcmlnpdabhaaGreatHVq
import Derived.Test.YthnbcmlnpdabhaaGreatHQq
import Derived.Test.YthnbcmlnpdabhaaGreatAsk3q
namespace Go.Proofs.YthnbcmlnpdabhaaGreat
open _root_.Go.Proofs.Tryz
open Go.RowKit
set_option linter.unusedVariables false
structure Ou where
 kind : Int
 to_ : Adr
 port : Int
 data : List UInt8
deriving DecidableEq
structure Dl where
 y : Qy
 oct : List UInt8
 st : Int
 op : Bool
 heard : List UInt8
 msg : Msg
def octP (y : Qy) : List UInt8 := (encM (askM y.q y.id false) false).1
def errP (y : Qy) : Int := (encM (askM y.q y.id false) false).2
def newD (y : Qy) : Dl × List Ou := if errP y = 0 then (⟨y, putB 2 (octP y).length ++ octP y, 0, false, [], Msg.zero⟩, [⟨2, y.sv, y.port, []⟩]) else (⟨y, [], 2, false, [], Msg.zero⟩, [])
def firstA (y : Qy) : List (List UInt8) → Option Msg
 | [] => none
 | s :: l => if (frameP y (decM s)).2 then some (frameP y (decM s)).1 else firstA y l
theorem firstA_app (y : Qy) (a b : List (List UInt8)) : firstA y (a ++ b) = match firstA y a with
  | some m => some m
  | none => firstA y b := by
 induction a with
 | nil => rfl
 | cons s a ih =>
  show (if _ then _ else firstA y (a ++ b)) = match (if _ then _ else firstA y a) with | some m => some m | none => firstA y b
  split
  ·
   rfl
  ·
   exact ih
def hearD (d : Dl) (e : Ev) : Dl × List Ou :=
 if d.st ≠ 0 ∨ e.port ≠ d.y.port then (d, [])
 else if e.kind = 3 then (if d.op then (d, []) else ({ d with op := true }, [⟨3, d.y.sv, d.y.port, d.oct⟩]))
 else if e.kind = 4 then (if d.op then (match firstA d.y (frames (d.heard ++ e.data)) with
   | some m => ({ d with heard := d.heard ++ e.data, msg := m, st := 1 }, [⟨4, d.y.sv, d.y.port, []⟩])
   | none => ({ d with heard := d.heard ++ e.data }, [])) else (d, []))
 else if e.kind = 5 then ({ d with st := 2 }, []) else (d, [])
def hangD (d : Dl) : Dl × List Ou := if d.st ≠ 0 then (d, []) else ({ d with st := 2 }, [⟨4, d.y.sv, d.y.port, []⟩])
def Dl.ok (d : Dl) : Prop := d.st = 0 → firstA d.y (frames d.heard) = none
theorem hearD_y (d : Dl) (e : Ev) : (hearD d e).1.y = d.y := by
 unfold hearD
 (repeat' split) <;> rfl
theorem firstA_rest (d : Dl) (h : d.ok) (h0 : d.st = 0) (s : List UInt8) : firstA d.y (frames (d.heard ++ s)) = firstA d.y (frames (restF d.heard ++ s)) ∧ restF (d.heard ++ s) = restF (restF d.heard ++ s) := by
 obtain ⟨h1, h2⟩ := frames_app d.heard.length d.heard s (Nat.le_refl _)
 refine ⟨?_, h2⟩
 rw [h1, firstA_app, h h0]
set_option maxRecDepth 100000
set_option linter.unusedSimpArgs false
def ouC (o : Ou) : List Value := .int .i64 o.kind :: (o.to_.cells ++ [.int .i64 o.port, .string (bs o.data)])
theorem ouC_len {o : Ou} (h : o.to_.ip.length = 16) : (ouC o).length = 21 := by simp [ouC, o.to_.cells_len h]
theorem ouC_ad {o : Ou} (h : o.to_.ip.length = 16) : ((ouC o).drop 1).take 18 = o.to_.cells := by
 show (o.to_.cells ++ _).take 18 = _
 exact List.take_left' (o.to_.cells_len h)
theorem ouC_at {o : Ou} (h : o.to_.ip.length = 16) (k : Nat) : (ouC o)[19 + k]? = [Value.int .i64 o.port, .string (bs o.data)][k]? := by
 unfold ouC
 rw [show 19 + k = (18 + k) + 1 by omega, List.getElem?_cons_succ, List.getElem?_append_right (by rw [o.to_.cells_len h]; omega), o.to_.cells_len h, Nat.add_sub_cancel_left]
def OusR (w : World) (A : Option Addr) (l : List Ou) : Prop := (∀ o ∈ l, o.to_.ip.length = 16) ∧ (0 < l.length → ∃ b off, A = some ⟨b, off, none⟩ ∧ b < w.heap.size ∧ ∀ i (hi : i < l.length), w.rangeAt b (off + i * 21) (ouC l[i]))
theorem OusR.below {w w' : World} {A : Option Addr} {l : List Ou} (h : OusR w A l) (hb : Below w.heap.size w w') : OusR w' A l := by
 refine ⟨h.1, fun hp => ?_⟩
 obtain ⟨b, off, h1, h2, h3⟩ := h.2 hp
 exact ⟨b, off, h1, Nat.lt_of_lt_of_le h2 hb.size, fun i hi => range_below (h3 i hi) hb h2⟩
theorem OusR.nil (w : World) (A : Option Addr) : OusR w A [] := ⟨by simp, fun h => absurd h (by simp)⟩
theorem OusR.grown {w w' : World} {A : Option Addr} {l : List Ou} {g : Nat} (h : OusR w A l) (hg : w.grownBy w' (some g)) (hA : ∀ b, A = some b → b.block ≠ g) : OusR w' A l := by
 refine ⟨h.1, fun hp => ?_⟩
 obtain ⟨b, off, h1, h2, h3⟩ := h.2 hp
 refine ⟨b, off, h1, Nat.lt_of_lt_of_le h2 hg.size, fun i hi j v hv => ?_⟩
 rw [← h3 i hi j v hv]
 exact grown_cell hg ⟨b, _, none⟩ h2 (by intro e; injection e with e; exact hA _ h1 e)
theorem fields_ou : (prog.fieldsOf 97).toList = [{ name := "Kind", type := 3, offset := 0, embedded := false, tag := "", pkgPath := "", byteOffset := 0 }, { name := "To", type := 24, offset := 1, embedded := false, tag := "", pkgPath := "", byteOffset := 8 }, { name := "Port", type := 3, offset := 19, embedded := false, tag := "", pkgPath := "", byteOffset := 40 }, { name := "Data", type := 9, offset := 20, embedded := false, tag := "", pkgPath := "", byteOffset := 48 }] := by kernel_rfl
theorem run_eqA9 (a b : Adr) (ha : a.ip.length = 16) (hb : b.ip.length = 16) (w : World) : (Op.equalIn 9999 24 (.agg a.cells.toArray) (.agg b.cells.toArray)).run prog w = .ok (decide (a = b)) w := by
 rw [run_equalIn_struct w 9998 24 _ _ (by unfold Program.fieldsOf; rw [underlying24]) (by kernel_rfl), fields_adr]
 have p0 : ∀ (x : Adr) (w : World), (part 3 x.cells.toArray 0).run prog w = .ok (.int .i64 x.fam) w := fun x w => by simp [part, isAgg, run_underlying underlying3, Adr.cells]
 have p1 : ∀ (x : Adr), x.ip.length = 16 → ∀ (w : World), (part 22 x.cells.toArray 1).run prog w = .ok (.agg (octs x.ip).toArray) w := fun x hx w => by
  simp only [part, isAgg, Sem.run_bind, run_underlying underlying22, Result.andThen_ok, Sem.run_pure, if_true, size_ip, Sem.run_ite]
  rw [show 1 + 16 = 17 from rfl, x.ip_part hx]
 have p2 : ∀ (x : Adr), x.ip.length = 16 → ∀ (w : World), (part 3 x.cells.toArray 17).run prog w = .ok (.int .i64 x.zone) w := fun x hx w => by simp [part, isAgg, run_underlying underlying3, x.zone_at hx]
 have e0 : (Op.equalIn 9998 3 (.int .i64 a.fam) (.int .i64 b.fam)).run prog w = .ok (a.fam == b.fam) w := run_equalIn_int w 9997 _ _ _ _ _ underlying3
 have e1 : (Op.equalIn 9998 22 (.agg (octs a.ip).toArray) (.agg (octs b.ip).toArray)).run prog w = .ok (decide (a.ip = b.ip)) w := by
  rw [octs_map, octs_map, run_equalIn_ints w 9996 _ 5 16 .u8 underlying22 underlying5 size_u8 _ _ (by simpa using ha) (by simpa using hb), toNat_inj_list]
 have e2 : (Op.equalIn 9998 3 (.int .i64 a.zone) (.int .i64 b.zone)).run prog w = .ok (a.zone == b.zone) w := run_equalIn_int w 9997 _ _ _ _ _ underlying3
 simp only [Op.eqFields, ne_eq, String.reduceEq, not_false_eq_true, if_true, Sem.run_bind, p0, p1 a ha, p1 b hb, p2 a ha, p2 b hb, e0, e1, e2, Result.andThen_ok, Sem.run_ite, Sem.run_pure]
 obtain ⟨fa, ia, za⟩ := a
 obtain ⟨fb, ib, zb⟩ := b
 simp only [Adr.mk.injEq]
 by_cases h1 : fa = fb <;> by_cases h2 : ia = ib <;> by_cases h3 : za = zb <;> simp [h1, h2, h3]
theorem size_adr (w : World) : (sizeOf 24).run prog w = .ok 18 w := by kernel_rfl
theorem ouC_part {o : Ou} (h : o.to_.ip.length = 16) : (ouC o).toArray.extract 1 19 = o.to_.cells.toArray := by
 apply Array.toList_inj.1
 have h2 := ouC_ad h
 simpa using h2
theorem run_eqOu (a b : Ou) (ha : a.to_.ip.length = 16) (hb : b.to_.ip.length = 16) (w : World) : (Op.equalIn 10000 97 (.agg (ouC a).toArray) (.agg (ouC b).toArray)).run prog w = .ok (decide (a = b)) w := by
 rw [run_equalIn_struct w 9999 97 _ _ (by unfold Program.fieldsOf; rw [underlying97]) (by kernel_rfl), fields_ou]
 have p0 : ∀ (x : Ou) (w : World), (part 3 (ouC x).toArray 0).run prog w = .ok (.int .i64 x.kind) w := fun x w => by simp [part, isAgg, run_underlying underlying3, ouC]
 have p1 : ∀ (x : Ou), x.to_.ip.length = 16 → ∀ (w : World), (part 24 (ouC x).toArray 1).run prog w = .ok (.agg x.to_.cells.toArray) w := fun x hx w => by
  simp only [part, isAgg, Sem.run_bind, run_underlying underlying24, Result.andThen_ok, Sem.run_pure, if_true, size_adr, Sem.run_ite]
  rw [show 1 + 18 = 19 from rfl, ouC_part hx]
 have p2 : ∀ (x : Ou), x.to_.ip.length = 16 → ∀ (w : World), (part 3 (ouC x).toArray 19).run prog w = .ok (.int .i64 x.port) w := fun x hx w => by
  have := ouC_at hx 0
  simp [part, isAgg, run_underlying underlying3] at this ⊢
  simp [this]
 have p3 : ∀ (x : Ou), x.to_.ip.length = 16 → ∀ (w : World), (part 9 (ouC x).toArray 20).run prog w = .ok (.string (bs x.data)) w := fun x hx w => by
  have := ouC_at hx 1
  simp [part, isAgg, run_underlying underlying9] at this ⊢
  simp [this]
 have e0 : (Op.equalIn 9999 3 (.int .i64 a.kind) (.int .i64 b.kind)).run prog w = .ok (a.kind == b.kind) w := run_equalIn_int w 9998 _ _ _ _ _ underlying3
 have e1 := run_eqA9 a.to_ b.to_ ha hb w
 have e2 : (Op.equalIn 9999 3 (.int .i64 a.port) (.int .i64 b.port)).run prog w = .ok (a.port == b.port) w := run_equalIn_int w 9998 _ _ _ _ _ underlying3
 have e3 : (Op.equalIn 9999 9 (.string (bs a.data)) (.string (bs b.data))).run prog w = .ok (a.data == b.data) w := by rw [run_equalIn_string w 9998 _ _ _ underlying9, bs_toList, bs_toList]
 simp only [Op.eqFields, ne_eq, String.reduceEq, not_false_eq_true, if_true, Sem.run_bind, p0, p1 a ha, p1 b hb, p2 a ha, p2 b hb, p3 a ha, p3 b hb, e0, e1, e2, e3, Result.andThen_ok, Sem.run_ite, Sem.run_pure]
 obtain ⟨k1, t1, q1, d1⟩ := a
 obtain ⟨k2, t2, q2, d2⟩ := b
 simp only [Ou.mk.injEq]
 by_cases h1 : k1 = k2 <;> by_cases h2 : t1 = t2 <;> by_cases h3 : q1 = q2 <;> by_cases h4 : d1 = d2 <;> simp [h1, h2, h3, h4]
theorem firstA_take_no {y : Qy} {l : List (List UInt8)} {k : Nat} (hk : k < l.length) (h : firstA y (l.take k) = none) (hf : (frameP y (decM l[k])).2 = false) : firstA y (l.take (k + 1)) = none := by
 rw [List.take_succ_eq_append_getElem hk, firstA_app, h]
 show (if (frameP y (decM l[k])).2 then _ else _) = _
 rw [hf]; rfl
theorem firstA_take_yes {y : Qy} {l : List (List UInt8)} {k : Nat} (hk : k < l.length) (h : firstA y (l.take k) = none) (hf : (frameP y (decM l[k])).2 = true) : firstA y l = some (frameP y (decM l[k])).1 := by
 have e1 : firstA y (l.take (k + 1)) = some (frameP y (decM l[k])).1 := by
  rw [List.take_succ_eq_append_getElem hk, firstA_app, h]
  show (if (frameP y (decM l[k])).2 then _ else _) = _
  rw [hf]; rfl
 have e2 := firstA_app y (l.take (k + 1)) (l.drop (k + 1))
 rw [List.take_append_drop, e1] at e2
 exact e2
end Go.Proofs.YthnbcmlnpdabhaaGreat
