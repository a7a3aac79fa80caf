/-
  The common words of this seat's proofs: what a call comes to, and how memory is kept.
-/
import Derived.Test.YtkcbffldncmbcaaGreatDoorRows
import Derived.WalkKit
import Derived.WalkSpells
import Derived.WalkLawsBesides
import Derived.Deep.QuietTactic
import Derived.BigQuiet
import Derived.Lib.Hide
import Derived.Handy
import Derived.Deep.RegionHeld3
import Derived.StillTailTactics
import Derived.Deep.LoopGhost
import Derived.Deep.RegionLaw
import Derived.Deep.DeepCutAuto
import Derived.Deep.Slices
import Derived.Maps.AppendAt
import Derived.Deep.AppendLies
import Derived.Lib.BufferWrite
import Derived.Laws.CopyOwn
namespace Go.Proofs.YtkcbffldncmbcaaGreatDoor
theorem lsA {α : Type _} (l : List α) (i : Nat) (a : α) : l.toArray.setIfInBounds i a = (l.set i a).toArray := List.setIfInBounds_toArray ..
theorem lsB {α : Type _} (x : α) (l : List α) (a : α) : (x :: l).set 0 a = a :: l := List.set_cons_zero ..
theorem lsC {α : Type _} (x : α) (l : List α) (n : Nat) (a : α) : (x :: l).set (n + 1) a = x :: l.set n a := List.set_cons_succ ..
theorem tk0 {L : List Value} {n : Nat} (h : L.length ≤ n) : (L.drop 0).take n = L := by rw [List.drop_zero, List.take_of_length_le h]
theorem Hh {p : Prop} (h : p) : RowKit.Hid p := Lib.hid h
open _root_.Go.Proofs.Tryz
open Go.RowKit
def Ret (v : Value) (w : World) (e : Ending) (w' : World) : Prop := e = .returned v ∧ w = w'
def RetB (v : Value) (w : World) (e : Ending) (w' : World) : Prop := e = .returned v ∧ Below w.heap.size w w'
theorem Ret.mk {v : Value} {w w' : World} {e : Ending} (h : e = .returned v) (hw : w = w') : Ret v w e w' := ⟨h, hw⟩
theorem RetB.mk {v : Value} {w w' : World} {e : Ending} (h : e = .returned v) (hw : Below w.heap.size w w') : RetB v w e w' := ⟨h, hw⟩
theorem ret_bool {a b : Bool} (h : a = b) : Ending.returned (.bool a) = .returned (.bool b) := by rw [h]
theorem below_then {B : Nat} {a w w' : World} (h : Below B a w) (hB : B ≤ w.heap.size) (k : Below w.heap.size w w') : Below B a w' := h.trans (k.mono hB)
def Blk (w : World) (g : Nat) (t : TypeId) (cs : List Value) : Prop := w.heap[g]? = some (.cells cs.toArray t (0, 0))
section
variable {w w' : World} {g : Nat} {t : TypeId} {cs : List Value}
theorem Blk.lt (h : Blk w g t cs) : g < w.heap.size := by
 rcases Nat.lt_or_ge g w.heap.size with hlt | hge
 ·
  exact hlt
 ·
  unfold Blk at h; rw [Array.getElem?_eq_none hge] at h; cases h
theorem Blk.cell (h : Blk w g t cs) (i : Nat) : w.cell? ⟨g, i, none⟩ = cs[i]? := by
 rw [cell_of_row w g i cs.toArray t (0, 0) h]; simp
theorem Blk.cell_ {u : Value} (h : Blk w g t cs) (i : Nat) (hi : cs[i]? = some u) : w.cell? ⟨g, i, none⟩ = some u := (h.cell i).trans hi
theorem Blk.frozen (h : Blk w g t cs) (i : Nat) : w.frozen? ⟨g, i, none⟩ = false := by
 unfold Blk at h
 simp [World.frozen?, h]
theorem Blk.new (w : World) (t : TypeId) (cs : List Value) : Blk (w.alloc (.cells cs.toArray t)) w.heap.size t cs := heap_alloc_new w _
theorem Blk.new' (w : World) (t : TypeId) (cs : List Value) (k : Nat) (hk : k = w.heap.size) : Blk (w.alloc (.cells cs.toArray t)) k t cs := hk ▸ heap_alloc_new w _
theorem Blk.drew (h : Blk w g t cs) : Blk w.drew g t cs := h
theorem Blk.alloc (h : Blk w g t cs) (o : Obj) : Blk (w.alloc o) g t cs := (Below.heap_alloc w o g h.lt).trans h
theorem Blk.set (h : Blk w g t cs) (i : Nat) (u : Value) : Blk (w.setCell ⟨g, i, none⟩ u) g t (cs.set i u) := by
 unfold Blk at h ⊢
 simp [World.setCell, Array.getElem?_modify, h]
theorem Blk.far (h : Blk w g t cs) {p : Addr} (hp : g ≠ p.block) (u : Value) : Blk (w.setCell p u) g t cs := (Below.heap_setCell w p u g hp).trans h
theorem Blk.below {B : Nat} (h : Blk w g t cs) (hb : Below B w w') (hg : g < B) : Blk w' g t cs := (hb.block g hg).trans h
theorem Blk.grown {row : Option Nat} (h : Blk w g t cs) (hb : w.grownBy w' row) (hg : some g ≠ row) : Blk w' g t cs := (hb.block g h.lt hg).trans h
end
theorem grown_set {a w : World} {g : Nat} (h : a.grownBy w (some g)) (i : Nat) (u : Value) : a.grownBy (w.setCell ⟨g, i, none⟩ u) (some g) :=
 ⟨h.os, h.tape, h.output, by simpa [World.setCell] using h.size, fun i' hi hne => (Below.heap_setCell w _ u i' (by simp only; intro e; exact hne (by rw [e]))).trans (h.block i' hi hne)⟩
theorem below_grown {B : Nat} {a w w' : World} {g : Nat} (h : Below B a w) (hg : w.grownBy w' (some g)) (hB : B ≤ w.heap.size) (hr : B ≤ g) : Below B a w' :=
 h.grown hg hB (fun k hk => by injection hk with hk; omega)
theorem grown_of_below {a w : World} (h : Below a.heap.size a w) (row : Option Nat) : a.grownBy w row := ⟨h.os, h.tape, h.output, h.size, fun i hi _ => h.block i hi⟩
theorem new_one (w : World) (u : Value) (t : TypeId) (k : Nat) (hk : k = w.heap.size) : ∀ j x, [u][j]? = some x → (w.alloc (.cells #[u] t)).cell? ((⟨k, 0, none⟩ : Addr).add j) = some x := by
 subst hk
 intro j x hx
 rcases j with _ | j
 ·
  simp at hx; subst hx; simp [Addr.add, go_sem]
 ·
  simp at hx
theorem one_cell1 {u : Value} (h : u.oneCell' = true) : ∀ x ∈ [u], x.oneCell' = true := by simpa using h
def bs (l : List UInt8) : ByteArray := ⟨l.toArray⟩
theorem bs_of (s : ByteArray) : s = bs s.data.toList := by cases s; simp [bs]
@[go_sem, simp] theorem bs_size (l : List UInt8) : (bs l).size = l.length := by simp [bs, ByteArray.size]
theorem bs_data (l : List UInt8) : (bs l).data.toList = l := by simp [bs]
@[go_sem] theorem bs_app (a b : List UInt8) : bs a ++ bs b = bs (a ++ b) := by unfold bs; rw [ByteArray.mk_append_mk]
@[go_sem] theorem bs_app_lit (a b : List UInt8) : bs a ++ ⟨b.toArray⟩ = bs (a ++ b) := bs_app a b
@[go_sem] theorem bs_lit_app (a b : List UInt8) : (⟨a.toArray⟩ : ByteArray) ++ bs b = bs (a ++ b) := bs_app a b
@[go_sem] theorem bs_extract (l : List UInt8) (i j : Nat) : (bs l).extract i j = bs ((l.take j).drop i) := by
 unfold bs
 rw [ByteArray.extract_mk, List.drop_take]
@[go_sem] theorem bs_get (l : List UInt8) (i : Nat) (h : i < (bs l).size) : (bs l)[i] = l[i]'(by simpa using h) := rfl
theorem toList_mk (l : List UInt8) : ByteArray.toList ⟨l.toArray⟩ = l := by rw [ByteArray.toList_eq]
@[go_sem] theorem bs_toList (l : List UInt8) : (bs l).toList = l := toList_mk l
set_option maxRecDepth 100000
def hw (width : Int) : Nat := if width < 0 then 0 else if 4 < width then 4 else width.toNat
def numB (l : List UInt8) : Nat := l.foldl (fun n c => 256 * n + c.toNat) 0
def encL (l : List UInt8) : List UInt8 := UInt8.ofNat l.length :: l
def encN (n : List (List UInt8)) : List UInt8 := n.flatMap encL
@[simp] theorem encN_nil : encN [] = [] := rfl
def lsum : List (List UInt8) → Nat
 | [] => 0
 | l :: n => l.length + 1 + lsum n
theorem lsum_app (a b : List (List UInt8)) : lsum (a ++ b) = lsum a + lsum b := by
 induction a with
 | nil => simp [lsum]
 | cons l a ih => simp [lsum, ih]; omega
theorem lsum_take (n : List (List UInt8)) (k : Nat) (h : k < n.length) : lsum (n.take (k + 1)) = lsum (n.take k) + (n[k].length + 1) := by
 rw [List.take_succ_eq_append_getElem h, lsum_app]; simp [lsum]
theorem lsum_take_le (n : List (List UInt8)) (k : Nat) : lsum (n.take k) ≤ lsum n := by
 have := lsum_app (n.take k) (n.drop k)
 rw [List.take_append_drop] at this; omega
theorem strInfo : (prog.info? 9).map (fun i => (i.zero, i.size, i.bytes)) = some (some (.string ⟨#[]⟩), 1, 16) := by kernel_rfl
def Txts (w : World) (v : Value) (l : List (List UInt8)) : Prop := w.ownsRow 0 9 1 v l.length (l.map fun t => Value.string (bs t))
def TxtR (w : World) (A : Option Addr) (l : List (List UInt8)) : Prop := 0 < l.length → ∃ b off, A = some ⟨b, off, none⟩ ∧ b < w.heap.size ∧ ∀ i (hi : i < l.length), w.cell? ⟨b, off + i, none⟩ = some (.string (bs l[i]))
theorem Txts.form {w : World} {v : Value} {l : List (List UInt8)} (h : Txts w v l) : ∃ A c, v = .slice A l.length c ∧ TxtR w A l ∧ l.length ≤ c := by
 rcases h.2 with ⟨rfl, h0⟩ | ⟨g, cap, cur, rfl, _, hh, hnc, _⟩
 ·
  refine ⟨none, 0, ?_, fun hp => absurd hp (by omega), by omega⟩
  rw [h0]
 ·
  refine ⟨some ⟨g, 0, none⟩, cap, rfl, fun _ => ⟨g, 0, rfl, ?_, fun i hi => ?_⟩, hnc⟩
  ·
   rcases Nat.lt_or_ge g w.heap.size with hlt | hge
   ·
    exact hlt
   ·
    rw [Array.getElem?_eq_none hge] at hh; cases hh
  ·
   have := World.ownsRow.cellAt h i (by omega)
   rw [Nat.zero_add, this]
   simp [hi]
theorem TxtR.below {w w' : World} {A : Option Addr} {l : List (List UInt8)} (h : TxtR w A l) (hb : Below w.heap.size w w') : TxtR w' A l := by
 intro hp
 obtain ⟨b, off, hA, hlt, hc⟩ := h hp
 exact ⟨b, off, hA, Nat.lt_of_lt_of_le hlt hb.size, fun i hi => (hb.cell hlt).trans (hc i hi)⟩
def octs (l : List UInt8) : List Value := l.map fun b => Value.int .u8 (b.toNat : Int)
theorem octs_length (l : List UInt8) : (octs l).length = l.length := by simp [octs]
theorem octs_app (a b : List UInt8) : octs (a ++ b) = octs a ++ octs b := by simp [octs]
theorem octs_get (l : List UInt8) (j : Nat) (h : j < l.length) : (octs l)[j]? = some (.int .u8 (l[j].toNat : Int)) := by simp [octs, h]
theorem byteInfo : (prog.info? 5).map (fun i => (i.zero, i.size, i.bytes)) = some (some (.int .u8 0), 1, 1) := by kernel_rfl
end Go.Proofs.YtkcbffldncmbcaaGreatDoor
