/-
  Layer 28 (dial), plain: what a dial does, and what it comes to.
-/
import Derived.Test.YthnbcmlnpdabhaaGreatHVq
import Derived.Test.YthnbcmlnpdabhaaGreatHQq
import Derived.Test.YthnbcmlnpdabhaaGreatAsk3q
namespace Go.Proofs.YthnbcmlnpdabhaaGreat
open _root_.Go.Proofs.Tryz
open Go.RowKit
set_option linter.unusedVariables false
structure Ou where
 kind : Int
 to_ : oi
 port : Int
 data : List UInt8
deriving DecidableEq
structure Dl where
 y : Qy
 oct : List UInt8
 st : Int
 op : Bool
 heard : List UInt8
 msg : oh
def Ih (y : Qy) : List UInt8 := (oT (pf y.q y.id false) false).1
def Bg (y : Qy) : Int := (oT (pf y.q y.id false) false).2
def tf (y : Qy) : Dl × List Ou := if Bg y = 0 then (⟨y, ny 2 (Ih y).length ++ Ih y, 0, false, [], oh.zero⟩, [⟨2, y.sv, y.port, []⟩]) else (⟨y, [], 2, false, [], oh.zero⟩, [])
def oU (y : Qy) : List (List UInt8) -> Option oh
 | [] => none
 | s :: l => if (pZ y (qR s)).2 then some (pZ y (qR s)).1 else oU y l
theorem xr (y : Qy) (a b : List (List UInt8)) : oU y (a ++ b) = match oU y a with
  | some m => some m
  | none => oU y b := by
 induction a with
 | nil => rfl
 | cons s a ih =>
  show (if _ then _ else oU y (a ++ b)) = match (if _ then _ else oU y a) with | some m => some m | none => oU y b
  split
  ·rfl
  ·exact ih
def n6 (d : Dl) (e : Ev) : Dl × List Ou :=
 if d.st ≠ 0 \/ e.port ≠ d.y.port then (d, [])
 else if e.kind = 3 then (if d.op then (d, []) else ({ d with op := true }, [⟨3, d.y.sv, d.y.port, d.oct⟩]))
 else if e.kind = 4 then (if d.op then (match oU d.y (n9 (d.heard ++ e.data)) with
   | some m => ({ d with heard := d.heard ++ e.data, msg := m, st := 1 }, [⟨4, d.y.sv, d.y.port, []⟩])
   | none => ({ d with heard := d.heard ++ e.data }, [])) else (d, []))
 else if e.kind = 5 then ({ d with st := 2 }, []) else (d, [])
def qI (d : Dl) : Dl × List Ou := if d.st ≠ 0 then (d, []) else ({ d with st := 2 }, [⟨4, d.y.sv, d.y.port, []⟩])
def Dl.ok (d : Dl) : Prop := d.st = 0 -> oU d.y (n9 d.heard) = none
theorem La (y : Qy) : (tf y).1.ok := by
 unfold tf;split
 ·intro _;show oU y (n9 []) = none;rw [(oZ [] cJ).1]; rfl
 ·intro h; cases h
theorem Bh (d : Dl) (e : Ev) (h : d.ok) : (n6 d e).1.ok := by
 unfold n6;split
 ·exact h
 ·
  split
  ·split <;> exact h
  ·
   split
   ·
    split
    ·
     split
     ·intro h; cases h
     ·rename_i hn; intro _; exact hn
    ·exact h
   ·
    split
    ·intro h; cases h
    ·exact h
theorem Lb (d : Dl) (e : Ev) : (n6 d e).1.y = d.y := by
 unfold n6
 (repeat' split) <;> rfl
theorem yX (d : Dl) (h : d.ok) (h0 : d.st = 0) (s : List UInt8) : oU d.y (n9 (d.heard ++ s)) = oU d.y (n9 (pB d.heard ++ s)) /\ pB (d.heard ++ s) = pB (pB d.heard ++ s) := by
 obtain ⟨h1, h2⟩ := JL d.heard.length d.heard s (Nat.le_refl _);refine ⟨?_, h2⟩;rw [h1, xr, h h0]
set_option maxRecDepth 100000
set_option linter.unusedSimpArgs false
def xu (o : Ou) : List Value := .int .i64 o.kind :: (o.to_.cells ++ [.int .i64 o.port, .string (bs o.data)])
theorem wP {o : Ou} (h : o.to_.ip.length = 16) : (xu o).length = 21 := by simp [xu, o.to_.nV h]
theorem UQ {o : Ou} (h : o.to_.ip.length = 16) : ((xu o).drop 1).take 18 = o.to_.cells := by
 show (o.to_.cells ++ _).take 18 = _;exact List.take_left' (o.to_.nV h)
theorem Qe {o : Ou} (h : o.to_.ip.length = 16) (k : Nat) : (xu o)[19 + k]? = [Value.int .i64 o.port, .string (bs o.data)][k]? := by
 unfold xu;rw [show 19 + k = (18 + k) + 1 by omega, List.getElem?_cons_succ, List.getElem?_append_right (by rw [o.to_.nV h]; omega), o.to_.nV h, Nat.add_sub_cancel_left]
theorem SX {o : Ou} : ∀ v ∈ xu o, v.oneCell' = true := by
 intro v hv;rcases List.mem_cons.1 hv with rfl | hv
 ·rfl
 rcases List.mem_append.1 hv with hv | hv
 ·exact o.to_.qb v hv
 ·simp only [List.mem_cons, List.not_mem_nil, or_false] at hv;rcases hv with rfl | rfl <;> rfl
def Nk (w : World) (A : Option Addr) (l : List Ou) : Prop := (∀ o ∈ l, o.to_.ip.length = 16) /\ (0 < l.length -> ∃ b off, A = some ⟨b, off, none⟩ /\ b < w.heap.size /\ ∀ i (hi : i < l.length), w.rangeAt b (off + i * 21) (xu l[i]))
theorem Nk.below {w w' : World} {A : Option Addr} {l : List Ou} (h : Nk w A l) (hb : Below w.heap.size w w') : Nk w' A l := by
 exact lh
theorem Nl : (prog.fieldsOf 97).toList = [{ name := "Kind", type := 3, offset := 0, embedded := false, tag := "", pkgPath := "", byteOffset := 0 }, { name := "To", type := 24, offset := 1, embedded := false, tag := "", pkgPath := "", byteOffset := 8 }, { name := "Port", type := 3, offset := 19, embedded := false, tag := "", pkgPath := "", byteOffset := 40 }, { name := "Data", type := 9, offset := 20, embedded := false, tag := "", pkgPath := "", byteOffset := 48 }] := by kernel_rfl
theorem Qf (a b : oi) (ha : a.ip.length = 16) (hb : b.ip.length = 16) (w : World) : (Op.equalIn 9999 24 (.agg a.cells.toArray) (.agg b.cells.toArray)).run prog w = .ok (decide (a = b)) w := by
 rw [run_equalIn_struct w 9998 24 _ _ aB (by kernel_rfl), zK];have p0 : ∀ (x : oi) (w : World), (part 3 x.cells.toArray 0).run prog w = .ok (.int .i64 x.fam) w := gQ;have p1 : ∀ (x : oi), x.ip.length = 16 -> ∀ (w : World), (part 22 x.cells.toArray 1).run prog w = .ok (.agg (oM x.ip).toArray) w := fun x hx w => by
  exact kX
 have p2 : ∀ (x : oi), x.ip.length = 16 -> ∀ (w : World), (part 3 x.cells.toArray 17).run prog w = .ok (.int .i64 x.zone) w := gC;have e0 : (Op.equalIn 9998 3 (.int .i64 a.fam) (.int .i64 b.fam)).run prog w = .ok (a.fam == b.fam) w := jh;have e1 : (Op.equalIn 9998 22 (.agg (oM a.ip).toArray) (.agg (oM b.ip).toArray)).run prog w = .ok (decide (a.ip = b.ip)) w := by rw [xM, xM, rz w 9996 _ 5 16 .u8 underlying22 underlying5 Ku _ _ (by simpa using ha) aC, tS]
 have e2 : (Op.equalIn 9998 3 (.int .i64 a.zone) (.int .i64 b.zone)).run prog w = .ok (a.zone == b.zone) w := jh;exact ki
theorem Qg (w : World) : (sizeOf 24).run prog w = .ok 18 w := by kernel_rfl
theorem Qh {o : Ou} (h : o.to_.ip.length = 16) : (xu o).toArray.extract 1 19 = o.to_.cells.toArray := by
 apply Array.toList_inj.1;have h2 := UQ h;simpa using h2
theorem Qi (a b : Ou) (ha : a.to_.ip.length = 16) (hb : b.to_.ip.length = 16) (w : World) : (Op.equalIn 10000 97 (.agg (xu a).toArray) (.agg (xu b).toArray)).run prog w = .ok (decide (a = b)) w := by
 rw [run_equalIn_struct w 9999 97 _ _ (by unfold Program.fieldsOf; rw [underlying97]) (by kernel_rfl), Nl];have p0 : ∀ (x : Ou) (w : World), (part 3 (xu x).toArray 0).run prog w = .ok (.int .i64 x.kind) w := fun x w => by simp [part, isAgg, run_underlying underlying3, xu]
 have p1 : ∀ (x : Ou), x.to_.ip.length = 16 -> ∀ (w : World), (part 24 (xu x).toArray 1).run prog w = .ok (.agg x.to_.cells.toArray) w := fun x hx w => by
  simp only [part, isAgg, Sem.run_bind, run_underlying underlying24, Result.andThen_ok, Sem.run_pure, if_true, Qg, Sem.run_ite];rw [show 1 + 18 = 19 from rfl, Qh hx]
 have p2 : ∀ (x : Ou), x.to_.ip.length = 16 -> ∀ (w : World), (part 3 (xu x).toArray 19).run prog w = .ok (.int .i64 x.port) w := fun x hx w => by
  have := Qe hx 0;simp [part, isAgg, run_underlying underlying3] at this ⊢;simp [this]
 have p3 : ∀ (x : Ou), x.to_.ip.length = 16 -> ∀ (w : World), (part 9 (xu x).toArray 20).run prog w = .ok (.string (bs x.data)) w := fun x hx w => by
  have := Qe hx 1;simp [part, isAgg, run_underlying underlying9] at this ⊢;simp [this]
 have e0 : (Op.equalIn 9999 3 (.int .i64 a.kind) (.int .i64 b.kind)).run prog w = .ok (a.kind == b.kind) w := eW;have e1 := Qf a.to_ b.to_ ha hb w;have e2 : (Op.equalIn 9999 3 (.int .i64 a.port) (.int .i64 b.port)).run prog w = .ok (a.port == b.port) w := eW;have e3 : (Op.equalIn 9999 9 (.string (bs a.data)) (.string (bs b.data))).run prog w = .ok (a.data == b.data) w := by rw [run_equalIn_string w 9998 _ _ _ underlying9, Dg, Dg]
 simp only [Op.eqFields, ne_eq, String.reduceEq, not_false_eq_true, if_true, Sem.run_bind, p0, p1 a ha, p1 b hb, p2 a ha, p2 b hb, p3 a ha, p3 b hb, e0, e1, e2, e3, Result.andThen_ok, Sem.run_ite, Sem.run_pure];obtain ⟨k1, t1, q1, d1⟩ := a;obtain ⟨k2, t2, q2, d2⟩ := b;simp only [Ou.mk.injEq];by_cases h1 : k1 = k2 <;> by_cases h2 : t1 = t2 <;> by_cases h3 : q1 = q2 <;> by_cases h4 : d1 = d2 <;> simp [h1, h2, h3, h4]
theorem vW {y : Qy} {l : List (List UInt8)} {k : Nat} (hk : k < l.length) (h : oU y (l.take k) = none) (hf : (pZ y (qR l[k])).2 = false) : oU y (l.take (k + 1)) = none := by
 exact lM
theorem vw {y : Qy} {l : List (List UInt8)} {k : Nat} (hk : k < l.length) (h : oU y (l.take k) = none) (hf : (pZ y (qR l[k])).2 = true) : oU y l = some (pZ y (qR l[k])).1 := by
 have e1 : oU y (l.take (k + 1)) = some (pZ y (qR l[k])).1 := by exact lM
 have e2 := xr y (l.take (k + 1)) (l.drop (k + 1));rw [List.take_append_drop, e1] at e2;exact e2
theorem Qj (y : Qy) : (tf y).2.length <= 1 := by unfold tf; split <;> simp
theorem D8 (d : Dl) (e : Ev) : (n6 d e).2.length <= 1 := by unfold n6; (repeat' split) <;> simp
theorem Ea (d : Dl) : (qI d).2.length <= 1 := by unfold qI; split <;> simp
theorem UR (y : Qy) : (tf y).1.y = y := by unfold tf; split <;> rfl
theorem yY (d : Dl) (e : Ev) : (n6 d e).1.heard.length <= d.heard.length + e.data.length := by
 unfold n6
 (repeat' split) <;> simp
end Go.Proofs.YthnbcmlnpdabhaaGreat
