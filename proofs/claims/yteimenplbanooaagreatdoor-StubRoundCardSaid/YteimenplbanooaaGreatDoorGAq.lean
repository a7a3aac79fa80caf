/-
  The common words of this seat's proofs: what a call comes to, and how memory is kept.
-/
import Derived.Test.YteimenplbanooaaGreatDoorRows
import Derived.WalkKit
import Derived.WalkSpells
import Derived.WalkLawsBesides
import Derived.Deep.QuietTactic
import Derived.BigQuiet
import Derived.Lib.Hide
import Derived.Handy
import Derived.Deep.RegionHeld3
import Derived.StillTailTactics
import Derived.Deep.LoopGhost
import Derived.Deep.RegionLaw
import Derived.Deep.DeepCutAuto
import Derived.Deep.Slices
import Derived.Maps.AppendAt
import Derived.Deep.AppendLies
import Derived.Lib.BufferWrite
import Derived.Laws.CopyOwn
namespace Go.Proofs.YteimenplbanooaaGreatDoor
theorem lsA {α : Type _} (l : List α) (i : Nat) (a : α) : l.toArray.setIfInBounds i a = (l.set i a).toArray := List.setIfInBounds_toArray ..
theorem lsB {α : Type _} (x : α) (l : List α) (a : α) : (x :: l).set 0 a = a :: l := List.set_cons_zero ..
theorem lsC {α : Type _} (x : α) (l : List α) (n : Nat) (a : α) : (x :: l).set (n + 1) a = x :: l.set n a := List.set_cons_succ ..
theorem tk0 {L : List Value} {n : Nat} (h : L.length ≤ n) : (L.drop 0).take n = L := by rw [List.drop_zero, List.take_of_length_le h]
theorem Hh {p : Prop} (h : p) : RowKit.Hid p := Lib.hid h
open _root_.Go.Proofs.Tryz
open Go.RowKit
def Ret (v : Value) (w : World) (e : Ending) (w' : World) : Prop := e = .returned v ∧ w = w'
def RetB (v : Value) (w : World) (e : Ending) (w' : World) : Prop := e = .returned v ∧ Below w.heap.size w w'
theorem Ret.mk {v : Value} {w w' : World} {e : Ending} (h : e = .returned v) (hw : w = w') : Ret v w e w' := ⟨h, hw⟩
theorem RetB.mk {v : Value} {w w' : World} {e : Ending} (h : e = .returned v) (hw : Below w.heap.size w w') : RetB v w e w' := ⟨h, hw⟩
theorem Ret.toB {v : Value} {w w' : World} {e : Ending} (h : Ret v w e w') : RetB v w e w' := ⟨h.1, h.2 ▸ Below.refl _ _⟩
theorem Ret.quiet {P : Program} {f : FuncId} {args : Array Value} {w : World} {n : Nat} {v : Value} (h : Calls P f args (w.drewN n) (Ret v (w.drewN n))) : Calls P f args (w.drewN n) fun e w'' => e = .returned v ∧ ∃ m, w'' = w.drewN m :=
 h.mono fun _ _ ⟨he, hm⟩ => ⟨he, n, hm.symm⟩
theorem held_step {A W w1 : World} (h : Below A.heap.size A W) (b : Below W.heap.size W w1) : Below A.heap.size A w1 := h.trans (b.mono h.size)
theorem ret_int {k : IntKind} {a b : Int} (h : a = b) : Ending.returned (.int k a) = .returned (.int k b) := by rw [h]
theorem ret_bool {a b : Bool} (h : a = b) : Ending.returned (.bool a) = .returned (.bool b) := by rw [h]
theorem below_drewN {B : Nat} {a w : World} (h : Below B a w) (n : Nat) : Below B a (w.drewN n) := ⟨h.os, h.tape, h.output, h.size, h.block⟩
theorem below_then {B : Nat} {a w w' : World} (h : Below B a w) (hB : B ≤ w.heap.size) (k : Below w.heap.size w w') : Below B a w' := h.trans (k.mono hB)
theorem below_size_le {B : Nat} {a w : World} (h : Below B a w) (hB : B ≤ a.heap.size) : B ≤ w.heap.size := Nat.le_trans hB h.size
theorem grown_cell {w w' : World} {row : Option Nat} (h : w.grownBy w' row) (p : Addr) (hp : p.block < w.heap.size) (hr : some p.block ≠ row) : w'.cell? p = w.cell? p := World.cell?_of_block (h.block _ hp hr)
theorem grown_trans {a b c : World} {row row' : Option Nat} (h : a.grownBy b row) (k : b.grownBy c row') (hr : row' = row ∨ ∀ g, row' = some g → a.heap.size ≤ g) : a.grownBy c row :=
 ⟨k.os.trans h.os, k.tape.trans h.tape, k.output.trans h.output, Nat.le_trans h.size k.size, fun i hi hne => (k.block i (Nat.lt_of_lt_of_le hi h.size) (by
  rcases hr with rfl | hr
  ·
   exact hne
  ·
   intro e; have := hr i e.symm; omega)).trans (h.block i hi hne)⟩
def Blk (w : World) (g : Nat) (t : TypeId) (cs : List Value) : Prop := w.heap[g]? = some (.cells cs.toArray t (0, 0))
section
variable {w w' : World} {g : Nat} {t : TypeId} {cs : List Value}
theorem Blk.lt (h : Blk w g t cs) : g < w.heap.size := by
 rcases Nat.lt_or_ge g w.heap.size with hlt | hge
 ·
  exact hlt
 ·
  unfold Blk at h; rw [Array.getElem?_eq_none hge] at h; cases h
theorem Blk.cell (h : Blk w g t cs) (i : Nat) : w.cell? ⟨g, i, none⟩ = cs[i]? := by
 rw [cell_of_row w g i cs.toArray t (0, 0) h]; simp
theorem Blk.cell_ {u : Value} (h : Blk w g t cs) (i : Nat) (hi : cs[i]? = some u) : w.cell? ⟨g, i, none⟩ = some u := (h.cell i).trans hi
theorem Blk.frozen (h : Blk w g t cs) (i : Nat) : w.frozen? ⟨g, i, none⟩ = false := by
 unfold Blk at h
 simp [World.frozen?, h]
theorem Blk.new (w : World) (t : TypeId) (cs : List Value) : Blk (w.alloc (.cells cs.toArray t)) w.heap.size t cs := heap_alloc_new w _
theorem Blk.new' (w : World) (t : TypeId) (cs : List Value) (k : Nat) (hk : k = w.heap.size) : Blk (w.alloc (.cells cs.toArray t)) k t cs := hk ▸ heap_alloc_new w _
theorem Blk.drew (h : Blk w g t cs) : Blk w.drew g t cs := h
theorem Blk.drewN (h : Blk w g t cs) (n : Nat) : Blk (w.drewN n) g t cs := h
theorem Blk.alloc (h : Blk w g t cs) (o : Obj) : Blk (w.alloc o) g t cs := (Below.heap_alloc w o g h.lt).trans h
theorem Blk.set (h : Blk w g t cs) (i : Nat) (u : Value) : Blk (w.setCell ⟨g, i, none⟩ u) g t (cs.set i u) := by
 unfold Blk at h ⊢
 simp [World.setCell, Array.getElem?_modify, h]
theorem Blk.far (h : Blk w g t cs) {p : Addr} (hp : g ≠ p.block) (u : Value) : Blk (w.setCell p u) g t cs := (Below.heap_setCell w p u g hp).trans h
theorem Blk.below {B : Nat} (h : Blk w g t cs) (hb : Below B w w') (hg : g < B) : Blk w' g t cs := (hb.block g hg).trans h
theorem Blk.grown {row : Option Nat} (h : Blk w g t cs) (hb : w.grownBy w' row) (hg : some g ≠ row) : Blk w' g t cs := (hb.block g h.lt hg).trans h
end
theorem grown_set {a w : World} {g : Nat} (h : a.grownBy w (some g)) (i : Nat) (u : Value) : a.grownBy (w.setCell ⟨g, i, none⟩ u) (some g) :=
 ⟨h.os, h.tape, h.output, by simpa [World.setCell] using h.size, fun i' hi hne => (Below.heap_setCell w _ u i' (by simp only; intro e; exact hne (by rw [e]))).trans (h.block i' hi hne)⟩
theorem grown_drew {a w : World} {row : Option Nat} (h : a.grownBy w row) : a.grownBy w.drew row := ⟨h.os, h.tape, h.output, h.size, h.block⟩
theorem grown_below {a w w' : World} {row : Option Nat} (h : a.grownBy w row) (hb : Below w.heap.size w w') : a.grownBy w' row :=
 ⟨hb.os.trans h.os, hb.tape.trans h.tape, hb.output.trans h.output, Nat.le_trans h.size hb.size, fun i hi hne => (hb.block i (Nat.lt_of_lt_of_le hi h.size)).trans (h.block i hi hne)⟩
theorem below_grown {B : Nat} {a w w' : World} {g : Nat} (h : Below B a w) (hg : w.grownBy w' (some g)) (hB : B ≤ w.heap.size) (hr : B ≤ g) : Below B a w' :=
 h.grown hg hB (fun k hk => by injection hk with hk; omega)
theorem grown_of_below {a w : World} (h : Below a.heap.size a w) (row : Option Nat) : a.grownBy w row := ⟨h.os, h.tape, h.output, h.size, fun i hi _ => h.block i hi⟩
theorem new_one (w : World) (u : Value) (t : TypeId) (k : Nat) (hk : k = w.heap.size) : ∀ j x, [u][j]? = some x → (w.alloc (.cells #[u] t)).cell? ((⟨k, 0, none⟩ : Addr).add j) = some x := by
 subst hk
 intro j x hx
 rcases j with _ | j
 ·
  simp at hx; subst hx; simp [Addr.add, go_sem]
 ·
  simp at hx
theorem one_cell1 {u : Value} (h : u.oneCell' = true) : ∀ x ∈ [u], x.oneCell' = true := by simpa using h
def bs (l : List UInt8) : ByteArray := ⟨l.toArray⟩
@[go_sem, simp] theorem bs_size (l : List UInt8) : (bs l).size = l.length := by simp [bs, ByteArray.size]
theorem bs_data (l : List UInt8) : (bs l).data.toList = l := by simp [bs]
@[go_sem] theorem bs_app (a b : List UInt8) : bs a ++ bs b = bs (a ++ b) := by unfold bs; rw [ByteArray.mk_append_mk]
@[go_sem] theorem bs_app_lit (a b : List UInt8) : bs a ++ ⟨b.toArray⟩ = bs (a ++ b) := bs_app a b
@[go_sem] theorem bs_lit_app (a b : List UInt8) : (⟨a.toArray⟩ : ByteArray) ++ bs b = bs (a ++ b) := bs_app a b
@[go_sem] theorem bs_extract (l : List UInt8) (i j : Nat) : (bs l).extract i j = bs ((l.take j).drop i) := by
 unfold bs
 rw [ByteArray.extract_mk, List.drop_take]
@[go_sem] theorem bs_get (l : List UInt8) (i : Nat) (h : i < (bs l).size) : (bs l)[i] = l[i]'(by simpa using h) := rfl
theorem toList_mk (l : List UInt8) : ByteArray.toList ⟨l.toArray⟩ = l := by rw [ByteArray.toList_eq]
@[go_sem] theorem bs_toList (l : List UInt8) : (bs l).toList = l := toList_mk l
set_option maxRecDepth 100000
def hw (width : Int) : Nat := if width < 0 then 0 else if 4 < width then 4 else width.toNat
theorem hw_le (width : Int) : hw width ≤ 4 := by unfold hw; split <;> (try split) <;> omega
def putB : Nat → Int → List UInt8
 | 0, _ => []
 | k + 1, n => putB k (n / 256) ++ [UInt8.ofNat (n % 256).toNat]
theorem putB_length (k : Nat) : ∀ n : Int, (putB k n).length = k := by
 induction k with
 | zero => intro n; rfl
 | succ k ih => intro n; simp [putB, ih]
def numB (l : List UInt8) : Nat := l.foldl (fun n c => 256 * n + c.toNat) 0
theorem numB_snoc (l : List UInt8) (c : UInt8) : numB (l ++ [c]) = 256 * numB l + c.toNat := by simp [numB]
theorem held_any (n : Int) (w : World) : Calls prog 339 #[.int .i64 n] w (Ret (.int .i64 (hw n)) w) := by
 go_enter func339, ntmps339
 go_wp2
 all_goals go_ret
 all_goals exact Ret.mk (ret_int (by unfold hw; split <;> (try split) <;> omega)) rfl
theorem new_nums (w : World) (t : TypeId) (k : IntKind) (xs : List Int) : ∀ i, i < xs.length → (w.alloc (.cells (xs.map (Value.int k)).toArray t)).cell? ⟨w.heap.size, 0 + i, none⟩ = some (.int k (xs.getD i 0)) := by
 intro i hi
 rw [(Blk.new w t (xs.map (Value.int k))).cell]
 simp [List.getD, List.getElem?_eq_getElem hi]
theorem put_0 (width n : Int) (w : World) (h : hw width = 0) : Calls prog 320 #[.int .i64 width, .int .i64 n] w (RetB (.string (bs (putB 0 n))) w) := by
 have hmk : ∀ w : World, (Instr.makeSlice 131 (.int .i64 0) (.int .i64 0)).run prog w = .ok (.slice (some ⟨w.heap.size, 0, none⟩) 0 0) (w.alloc (.cells #[] 5)) := fun _ => by kernel_rfl
 have hcv : (convert 131 9 (.slice (some ⟨w.heap.size, 0, none⟩) 0 0)).run prog (w.alloc (.cells #[] 5)) = .ok (.string (bs (putB 0 n))) (w.alloc (.cells #[] 5)) :=
  run_convert_bytes_arg _ 131 5 underlying131 underlying5 _ 0 0 0 [] rfl (new_nums w _ _ []) 9 underlying9
 have H := Lib.hid h
 clear h
 go_enter func320, ntmps320
 go_wp2_with fail
 refine (held_any _ _).mono ?_
 rintro e w' ⟨rfl, rfl⟩
 rw [H.out, show ((0 : Nat) : Int) = 0 from rfl]
 go_wp2_with fail
 refine wp_loop_rounds 1 ?_
 rw [rounds_succ]
 go_wp2_with fail
 go_ret
 exact RetB.mk rfl ((Below.refl _ _).alloc (Nat.le_refl _) _)
theorem put_1 (width n : Int) (w : World) (h : hw width = 1) : Calls prog 320 #[.int .i64 width, .int .i64 n] w (RetB (.string (bs (putB 1 n))) w) := by
 have hmk : ∀ w : World, (Instr.makeSlice 131 (.int .i64 1) (.int .i64 1)).run prog w = .ok (.slice (some ⟨w.heap.size, 0, none⟩) 1 1) (w.alloc (.cells #[.int .u8 0] 5)) := fun _ => by kernel_rfl
 have hcv : (convert 131 9 (.slice (some ⟨w.heap.size, 0, none⟩) 1 1)).run prog (w.alloc (.cells #[.int .u8 (n % 256)] 5)) = .ok (.string (bs (putB 1 n))) (w.alloc (.cells #[.int .u8 (n % 256)] 5)) :=
  run_convert_bytes_arg _ 131 5 underlying131 underlying5 _ 0 1 1 [n % 256] rfl (new_nums w _ _ [n % 256]) 9 underlying9
 have H := Lib.hid h
 clear h
 go_enter func320, ntmps320
 go_wp2_with fail
 refine (held_any _ _).mono ?_
 rintro e w' ⟨rfl, rfl⟩
 rw [H.out, show ((1 : Nat) : Int) = 1 from rfl]
 go_wp2_with fail
 refine wp_loop_rounds 2 ?_
 rw [rounds_succ]
 go_wp2_with fail
 rw [rounds_succ]
 go_wp2_with fail
 go_ret
 exact RetB.mk rfl ((Below.refl _ _).alloc (Nat.le_refl _) _)
theorem put_2 (width n : Int) (w : World) (h : hw width = 2) : Calls prog 320 #[.int .i64 width, .int .i64 n] w (RetB (.string (bs (putB 2 n))) w) := by
 have hmk : ∀ w : World, (Instr.makeSlice 131 (.int .i64 2) (.int .i64 2)).run prog w = .ok (.slice (some ⟨w.heap.size, 0, none⟩) 2 2) (w.alloc (.cells #[.int .u8 0, .int .u8 0] 5)) := fun _ => by kernel_rfl
 have hcv : (convert 131 9 (.slice (some ⟨w.heap.size, 0, none⟩) 2 2)).run prog (w.alloc (.cells #[.int .u8 (n / 256 % 256), .int .u8 (n % 256)] 5)) = .ok (.string (bs (putB 2 n))) (w.alloc (.cells #[.int .u8 (n / 256 % 256), .int .u8 (n % 256)] 5)) :=
  run_convert_bytes_arg _ 131 5 underlying131 underlying5 _ 0 2 2 [n / 256 % 256, n % 256] rfl (new_nums w _ _ [n / 256 % 256, n % 256]) 9 underlying9
 have H := Lib.hid h
 clear h
 go_enter func320, ntmps320
 go_wp2_with fail
 refine (held_any _ _).mono ?_
 rintro e w' ⟨rfl, rfl⟩
 rw [H.out, show ((2 : Nat) : Int) = 2 from rfl]
 go_wp2_with fail
 refine wp_loop_rounds 3 ?_
 rw [rounds_succ]
 go_wp2_with fail
 rw [rounds_succ]
 go_wp2_with fail
 rw [rounds_succ]
 go_wp2_with fail
 go_ret
 exact RetB.mk rfl ((Below.refl _ _).alloc (Nat.le_refl _) _)
theorem put_3 (width n : Int) (w : World) (h : hw width = 3) : Calls prog 320 #[.int .i64 width, .int .i64 n] w (RetB (.string (bs (putB 3 n))) w) := by
 have hmk : ∀ w : World, (Instr.makeSlice 131 (.int .i64 3) (.int .i64 3)).run prog w = .ok (.slice (some ⟨w.heap.size, 0, none⟩) 3 3) (w.alloc (.cells #[.int .u8 0, .int .u8 0, .int .u8 0] 5)) := fun _ => by kernel_rfl
 have hcv : (convert 131 9 (.slice (some ⟨w.heap.size, 0, none⟩) 3 3)).run prog (w.alloc (.cells #[.int .u8 (n / 256 / 256 % 256), .int .u8 (n / 256 % 256), .int .u8 (n % 256)] 5)) = .ok (.string (bs (putB 3 n))) (w.alloc (.cells #[.int .u8 (n / 256 / 256 % 256), .int .u8 (n / 256 % 256), .int .u8 (n % 256)] 5)) :=
  run_convert_bytes_arg _ 131 5 underlying131 underlying5 _ 0 3 3 [n / 256 / 256 % 256, n / 256 % 256, n % 256] rfl (new_nums w _ _ [n / 256 / 256 % 256, n / 256 % 256, n % 256]) 9 underlying9
 have H := Lib.hid h
 clear h
 go_enter func320, ntmps320
 go_wp2_with fail
 refine (held_any _ _).mono ?_
 rintro e w' ⟨rfl, rfl⟩
 rw [H.out, show ((3 : Nat) : Int) = 3 from rfl]
 go_wp2_with fail
 refine wp_loop_rounds 4 ?_
 rw [rounds_succ]
 go_wp2_with fail
 rw [rounds_succ]
 go_wp2_with fail
 rw [rounds_succ]
 go_wp2_with fail
 rw [rounds_succ]
 go_wp2_with fail
 go_ret
 exact RetB.mk rfl ((Below.refl _ _).alloc (Nat.le_refl _) _)
theorem put_4 (width n : Int) (w : World) (h : hw width = 4) : Calls prog 320 #[.int .i64 width, .int .i64 n] w (RetB (.string (bs (putB 4 n))) w) := by
 have hmk : ∀ w : World, (Instr.makeSlice 131 (.int .i64 4) (.int .i64 4)).run prog w = .ok (.slice (some ⟨w.heap.size, 0, none⟩) 4 4) (w.alloc (.cells #[.int .u8 0, .int .u8 0, .int .u8 0, .int .u8 0] 5)) := fun _ => by kernel_rfl
 have hcv : (convert 131 9 (.slice (some ⟨w.heap.size, 0, none⟩) 4 4)).run prog (w.alloc (.cells #[.int .u8 (n / 256 / 256 / 256 % 256), .int .u8 (n / 256 / 256 % 256), .int .u8 (n / 256 % 256), .int .u8 (n % 256)] 5)) = .ok (.string (bs (putB 4 n))) (w.alloc (.cells #[.int .u8 (n / 256 / 256 / 256 % 256), .int .u8 (n / 256 / 256 % 256), .int .u8 (n / 256 % 256), .int .u8 (n % 256)] 5)) :=
  run_convert_bytes_arg _ 131 5 underlying131 underlying5 _ 0 4 4 [n / 256 / 256 / 256 % 256, n / 256 / 256 % 256, n / 256 % 256, n % 256] rfl (new_nums w _ _ [n / 256 / 256 / 256 % 256, n / 256 / 256 % 256, n / 256 % 256, n % 256]) 9 underlying9
 have H := Lib.hid h
 clear h
 go_enter func320, ntmps320
 go_wp2_with fail
 refine (held_any _ _).mono ?_
 rintro e w' ⟨rfl, rfl⟩
 rw [H.out, show ((4 : Nat) : Int) = 4 from rfl]
 go_wp2_with fail
 refine wp_loop_rounds 5 ?_
 rw [rounds_succ]
 go_wp2_with fail
 rw [rounds_succ]
 go_wp2_with fail
 rw [rounds_succ]
 go_wp2_with fail
 rw [rounds_succ]
 go_wp2_with fail
 rw [rounds_succ]
 go_wp2_with fail
 go_ret
 exact RetB.mk rfl ((Below.refl _ _).alloc (Nat.le_refl _) _)
theorem put_any (width n : Int) (w : World) : Calls prog 320 #[.int .i64 width, .int .i64 n] w (RetB (.string (bs (putB (hw width) n))) w) := by
 have h : hw width = 0 ∨ hw width = 1 ∨ hw width = 2 ∨ hw width = 3 ∨ hw width = 4 := by have := hw_le width; omega
 rcases h with h | h | h | h | h
 ·
  rw [h]; exact put_0 width n w h
 ·
  rw [h]; exact put_1 width n w h
 ·
  rw [h]; exact put_2 width n w h
 ·
  rw [h]; exact put_3 width n w h
 ·
  rw [h]; exact put_4 width n w h
theorem ofNat_mod (n : Int) : ((UInt8.ofNat (n % 256).toNat).toNat : Int) = n % 256 := by
 rw [UInt8.toNat_ofNat']
 omega
theorem numB_putB : ∀ (k : Nat) (n : Int), (numB (putB k n) : Int) = n % (256 ^ k : Nat) := by
 intro k
 induction k with
 | zero => intro n; simp [putB, numB]
 | succ k ih =>
  intro n
  have h1 := ih (n / 256)
  have h2 := ofNat_mod n
  rw [putB, numB_snoc]
  have hp : 0 < 256 ^ k := Nat.pow_pos (by decide)
  generalize hq : 256 ^ k = m at *
  have e : n % ((256 * m : Nat) : Int) = 256 * (n / 256 % (m : Int)) + n % 256 := by
   have hm : (0 : Int) < m := by omega
   have b1 := Int.emod_nonneg (n / 256) (show (m : Int) ≠ 0 by omega)
   have b2 := Int.emod_lt_of_pos (n / 256) hm
   have d := Int.emod_add_mul_ediv (n / 256) m
   have key : n = (256 * (n / 256 % (m : Int)) + n % 256) + ((256 * m : Nat) : Int) * (n / 256 / m) := by
    have : ((256 * m : Nat) : Int) * (n / 256 / m) = 256 * ((m : Int) * (n / 256 / m)) := by
     rw [Int.natCast_mul]; exact Int.mul_assoc _ _ _
    rw [this]; omega
   have : n % ((256 * m : Nat) : Int) = (256 * (n / 256 % (m : Int)) + n % 256) % ((256 * m : Nat) : Int) := by
    conv => lhs; rw [key]
    exact Int.add_mul_emod_self_left _ _ _
   rw [this]
   exact Int.emod_eq_of_lt (by omega) (by omega)
  rw [Nat.pow_succ, hq, Nat.mul_comm m 256, e]
  omega
def encL (l : List UInt8) : List UInt8 := UInt8.ofNat l.length :: l
def encN (n : List (List UInt8)) : List UInt8 := n.flatMap encL
theorem encL_length (l : List UInt8) : (encL l).length = l.length + 1 := by simp [encL]
@[simp] theorem encN_nil : encN [] = [] := rfl
theorem encN_cons (l : List UInt8) (n : List (List UInt8)) : encN (l :: n) = encL l ++ encN n := by simp [encN]
theorem encN_app (a b : List (List UInt8)) : encN (a ++ b) = encN a ++ encN b := by simp [encN]
def lsum : List (List UInt8) → Nat
 | [] => 0
 | l :: n => l.length + 1 + lsum n
theorem lsum_app (a b : List (List UInt8)) : lsum (a ++ b) = lsum a + lsum b := by
 induction a with
 | nil => simp [lsum]
 | cons l a ih => simp [lsum, ih]; omega
theorem encN_length (n : List (List UInt8)) : (encN n).length = lsum n := by
 induction n with
 | nil => rfl
 | cons l n ih => rw [encN_cons, List.length_append, encL_length, ih, lsum]
theorem lsum_ge (n : List (List UInt8)) : n.length ≤ lsum n := by
 induction n with
 | nil => simp
 | cons l n ih => simp [lsum]; omega
theorem lsum_take (n : List (List UInt8)) (k : Nat) (h : k < n.length) : lsum (n.take (k + 1)) = lsum (n.take k) + (n[k].length + 1) := by
 rw [List.take_succ_eq_append_getElem h, lsum_app]; simp [lsum]
theorem lsum_take_le (n : List (List UInt8)) (k : Nat) : lsum (n.take k) ≤ lsum n := by
 have := lsum_app (n.take k) (n.drop k)
 rw [List.take_append_drop] at this; omega
def badL (l : List UInt8) : Bool := decide (l.length < 1) || decide (63 < l.length)
def checkN (n : List (List UInt8)) : Int := if n.any badL then 7 else if 255 < 1 + lsum n then 3 else 0
theorem checkN_ok {n : List (List UInt8)} (h : checkN n = 0) : (∀ l ∈ n, 1 ≤ l.length ∧ l.length ≤ 63) ∧ 1 + lsum n ≤ 255 := by
 unfold checkN at h
 split at h
 ·
  cases h
 ·
  rename_i ha
  split at h
  ·
   cases h
  ·
   refine ⟨fun l hl => ?_, by omega⟩
   have hb : badL l = false := by
    cases h : badL l with
    | false => rfl
    | true => exact absurd (List.any_eq_true.2 ⟨l, hl, h⟩) ha
   simp [badL] at hb
   cases l with
   | nil => simp at hb
   | cons x l => simp at hb ⊢; omega
def GoodN (n : List (List UInt8)) : Prop := ∀ l ∈ n, 1 ≤ l.length ∧ l.length ≤ 63
theorem GoodN.tail {l : List UInt8} {n : List (List UInt8)} (h : GoodN (l :: n)) : GoodN n := fun x hx => h x (List.mem_cons_of_mem _ hx)
theorem GoodN.drop {n : List (List UInt8)} (h : GoodN n) (k : Nat) : GoodN (n.drop k) := fun x hx => h x (List.mem_of_mem_drop hx)
theorem ofNat_toNat63 {k : Nat} (h : k ≤ 255) : (UInt8.ofNat k).toNat = k := by
 rw [UInt8.toNat_ofNat']; exact Nat.mod_eq_of_lt (by omega)
theorem encN_inj : ∀ (a b : List (List UInt8)), GoodN a → GoodN b → encN a = encN b → a = b := by
 intro a
 induction a with
 | nil =>
  intro b _ _ h
  cases b with
  | nil => rfl
  | cons y b => rw [encN_cons] at h; simp [encL] at h
 | cons x a ih =>
  intro b ga gb h
  cases b with
  | nil => rw [encN_cons] at h; simp [encL] at h
  | cons y b =>
   rw [encN_cons, encN_cons] at h
   simp only [encL, List.cons_append, List.cons.injEq] at h
   obtain ⟨h1, h2⟩ := h
   have gx := ga x (List.mem_cons_self ..)
   have gy := gb y (List.mem_cons_self ..)
   have hl : x.length = y.length := by
    have := congrArg UInt8.toNat h1
    rwa [ofNat_toNat63 (by omega), ofNat_toNat63 (by omega)] at this
   obtain ⟨e1, e2⟩ := List.append_inj h2 hl
   rw [e1, ih b ga.tail gb.tail e2]
def look (T : List (List (List UInt8) × Nat)) (n : List (List UInt8)) : Option Nat := (T.find? fun r => r.1 == n).map (·.2)
def low (at_ : Int) (k : Nat) : Bool := decide (0 ≤ at_) && decide (at_ < 16384) && decide (at_ + k < 16384)
theorem low_iff (at_ : Int) (k : Nat) : low at_ k = true ↔ 0 ≤ at_ ∧ at_ < 16384 ∧ at_ + k < 16384 := by simp [low, and_assoc]
def pgo (T : List (List (List UInt8) × Nat)) (at_ : Int) (pre : List UInt8) : List (List UInt8) → List UInt8 × List (List (List UInt8) × Nat)
 | [] => (pre ++ [0], [])
 | l :: n => match look T (l :: n) with
  | some q0 => (pre ++ putB 2 (49152 + q0), [])
  | none => ((pgo T at_ (pre ++ encL l) n).1, (if low at_ pre.length then [(l :: n, (at_ + pre.length).toNat)] else []) ++ (pgo T at_ (pre ++ encL l) n).2)
theorem pgo_some {T : List (List (List UInt8) × Nat)} {at_ : Int} {pre l : List UInt8} {n : List (List UInt8)} {q0 : Nat} (h : look T (l :: n) = some q0) : pgo T at_ pre (l :: n) = (pre ++ putB 2 (49152 + q0), []) := by
 rw [pgo, h]
theorem pgo_no {T : List (List (List UInt8) × Nat)} {at_ : Int} {pre l : List UInt8} {n : List (List UInt8)} (h : look T (l :: n) = none) : pgo T at_ pre (l :: n) = ((pgo T at_ (pre ++ encL l) n).1, (if low at_ pre.length then [(l :: n, (at_ + pre.length).toNat)] else []) ++ (pgo T at_ (pre ++ encL l) n).2) := by
 rw [pgo, h]
theorem look_app_none (T U : List (List (List UInt8) × Nat)) (n : List (List UInt8)) (h : ∀ r ∈ U, r.1 ≠ n) : look (T ++ U) n = look T n := by
 unfold look
 rw [List.find?_append]
 have : U.find? (fun r => r.1 == n) = none := by
  rw [List.find?_eq_none]
  intro r hr; simpa using h r hr
 rw [this]; simp
theorem look_mem {T : List (List (List UInt8) × Nat)} {n : List (List UInt8)} {q : Nat} (h : look T n = some q) : (n, q) ∈ T := by
 unfold look at h
 rw [Option.map_eq_some_iff] at h
 obtain ⟨r, hr, rfl⟩ := h
 have h1 := List.find?_some hr
 have h2 := List.mem_of_find?_eq_some hr
 have : r.1 = n := by simpa using h1
 rw [← this]; exact h2
inductive Rd (m : List UInt8) : Nat → Nat → List (List UInt8) → Nat → Prop where
 | nil {b p} : p < m.length → (m.getD p 0).toNat = 0 → Rd m b p [] (p + 1)
 | cons {b p l n e} : p < m.length → (m.getD p 0).toNat = l.length → 1 ≤ l.length → l.length ≤ 63 → p + 1 + l.length ≤ m.length → (m.take (p + 1 + l.length)).drop (p + 1) = l → Rd m b (p + 1 + l.length) n e → Rd m b p (l :: n) e
 | ptr {b p q n e} : p + 1 < m.length → 192 ≤ (m.getD p 0).toNat → (m.getD p 0).toNat * 256 + (m.getD (p + 1) 0).toNat - 49152 = q → q < b → Rd m q q n e → Rd m b p n (p + 2)
theorem getD_app (m y : List UInt8) (p : Nat) (h : p < m.length) : (m ++ y).getD p 0 = m.getD p 0 := by
 simp [List.getD, List.getElem?_append_left h]
theorem Rd.app {m : List UInt8} {b p : Nat} {n : List (List UInt8)} {e : Nat} (h : Rd m b p n e) (y : List UInt8) : Rd (m ++ y) b p n e := by
 induction h with
 | nil h1 h2 => exact .nil (by simp; omega) (by rw [getD_app _ _ _ h1]; exact h2)
 | cons h1 h2 h3 h4 h5 h6 _ ih =>
  exact .cons (by simp; omega) (by rw [getD_app _ _ _ h1]; exact h2) h3 h4 (by simp; omega) (by rw [List.take_append_of_le_length h5]; exact h6) ih
 | ptr h1 h2 h3 h4 _ ih =>
  exact .ptr (by simp; omega) (by rw [getD_app _ _ _ (by omega)]; exact h2) (by rw [getD_app _ _ _ (by omega), getD_app _ _ _ h1]; exact h3) h4 ih
def TabOk (m : List UInt8) (T : List (List (List UInt8) × Nat)) : Prop := ∀ r ∈ T, r.1 ≠ [] ∧ r.2 < 16384 ∧ r.2 < m.length ∧ ∃ e, Rd m r.2 r.2 r.1 e
theorem TabOk.app {m : List UInt8} {T : List (List (List UInt8) × Nat)} (h : TabOk m T) (y : List UInt8) : TabOk (m ++ y) T := by
 intro r hr
 obtain ⟨h1, h2, h3, e, h4⟩ := h r hr
 exact ⟨h1, h2, by simp; omega, e, h4.app y⟩
theorem ptr_octs (q0 : Nat) (h : q0 < 16384) : putB 2 (49152 + q0) = [UInt8.ofNat (192 + q0 / 256), UInt8.ofNat (q0 % 256)] := by
 have e1 : ((49152 + (q0 : Int)) / 256 % 256).toNat = 192 + q0 / 256 := by omega
 have e2 : ((49152 + (q0 : Int)) % 256).toNat = q0 % 256 := by omega
 simp [putB, e1, e2]
theorem getD_at (x y : List UInt8) (c : UInt8) : (x ++ c :: y).getD x.length 0 = c := by simp [List.getD]
theorem getD_at1 (x y : List UInt8) (c d : UInt8) : (x ++ c :: d :: y).getD (x.length + 1) 0 = d := by simp [List.getD]
theorem ptr_back (q0 : Nat) (h : q0 < 16384) : (UInt8.ofNat (192 + q0 / 256)).toNat * 256 + (UInt8.ofNat (q0 % 256)).toNat - 49152 = q0 := by
 rw [ofNat_toNat63 (by omega), ofNat_toNat63 (by omega)]; omega
theorem pgo_rd (T : List (List (List UInt8) × Nat)) (first : List UInt8) (hT : TabOk first T) : ∀ (n : List (List UInt8)) (pre : List UInt8), GoodN n →
  (∃ a, (pgo T first.length pre n).1 = pre ++ a ∧ a.length ≤ lsum n + 1 ∧ 1 ≤ a.length ∧ ∀ b, first.length ≤ b → Rd (first ++ (pre ++ a)) b (first.length + pre.length) n (first.length + pre.length + a.length)) ∧
  TabOk (first ++ (pgo T first.length pre n).1) (pgo T first.length pre n).2 := by
 intro n
 induction n with
 | nil =>
  intro pre _
  refine ⟨⟨[0], rfl, by simp [lsum], by simp, fun b _ => ?_⟩, by simp [pgo, TabOk]⟩
  refine .nil (by simp) ?_
  rw [← List.append_assoc, ← List.length_append, getD_at]; rfl
 | cons l n ih =>
  intro pre hg
  have hl := hg l (List.mem_cons_self ..)
  cases hk : look T (l :: n) with
  | some q0 =>
   rw [pgo_some hk]
   have hm := look_mem hk
   obtain ⟨h1, h2, h3, e, h4⟩ := hT _ hm
   simp only at h1 h2 h3 h4
   simp only
   refine ⟨⟨putB 2 (49152 + q0), rfl, by rw [putB_length]; simp [lsum]; omega, by rw [putB_length]; omega, fun b hb => ?_⟩, by simp [TabOk]⟩
   rw [putB_length, ptr_octs q0 h2]
   refine .ptr (q := q0) (e := e) (by simp; omega) ?_ ?_ (by omega) ?_
   ·
    rw [← List.append_assoc, ← List.length_append, getD_at, ofNat_toNat63 (by omega)]; omega
   ·
    rw [← List.append_assoc, ← List.length_append, getD_at, getD_at1]; exact ptr_back q0 h2
   ·
    exact h4.app _
  | none =>
   rw [pgo_no hk]
   obtain ⟨⟨a, ha, hla, hla1, hr⟩, ht⟩ := ih (pre ++ encL l) hg.tail
   have hR : ∀ b, first.length ≤ b → Rd (first ++ (pre ++ (encL l ++ a))) b (first.length + pre.length) (l :: n) (first.length + pre.length + (encL l ++ a).length) := by
    intro b hb
    have := hr b hb
    rw [List.append_assoc] at this
    rw [show first.length + (pre ++ encL l).length = first.length + pre.length + 1 + l.length by simp [encL]; omega] at this
    rw [show first.length + pre.length + (encL l ++ a).length = first.length + pre.length + 1 + l.length + a.length by simp [encL]; omega]
    refine .cons (by simp [encL]) ?_ hl.1 hl.2 (by simp [encL]; omega) ?_ this
    ·
     rw [← List.append_assoc, ← List.length_append]
     simp only [encL, List.cons_append]
     rw [getD_at, ofNat_toNat63 (by omega)]
    ·
     have e1 : first ++ (pre ++ (encL l ++ a)) = (first ++ pre ++ [UInt8.ofNat l.length]) ++ (l ++ a) := by simp [encL]
     have e2 : first.length + pre.length + 1 = (first ++ pre ++ [UInt8.ofNat l.length]).length := by simp; omega
     rw [e1, e2, List.drop_take, List.drop_left, Nat.add_sub_cancel_left, List.take_left]
   refine ⟨⟨encL l ++ a, by rw [ha]; simp, by rw [List.length_append, encL_length, lsum]; omega, by rw [List.length_append]; omega, hR⟩, ?_⟩
   intro r hr'
   rcases List.mem_append.1 hr' with h | h
   ·
    by_cases hc : low first.length pre.length = true
    ·
     rw [if_pos hc, List.mem_singleton] at h
     have hc' := (low_iff _ _).1 hc
     have e : (((first.length : Int)) + (pre.length : Int)).toNat = first.length + pre.length := by omega
     rw [e] at h
     rw [h]
     refine ⟨by simp, by omega, ?_, first.length + pre.length + (encL l ++ a).length, ?_⟩
     ·
      rw [ha]; simp [encL]
     ·
      rw [ha, List.append_assoc]; exact hR _ (by omega)
    ·
     rw [if_neg hc] at h; cases h
   ·
    exact ht r h
theorem pgo_none (at_ : Int) : ∀ (n : List (List UInt8)) (pre : List UInt8), (pgo [] at_ pre n).1 = pre ++ encN n ++ [0] := by
 intro n
 induction n with
 | nil => intro pre; simp [pgo]
 | cons l n ih =>
  intro pre
  rw [pgo_no rfl, ih, encN_cons]; simp
theorem strInfo : (prog.info? 9).map (fun i => (i.zero, i.size, i.bytes)) = some (some (.string ⟨#[]⟩), 1, 16) := by kernel_rfl
def Txts (w : World) (v : Value) (l : List (List UInt8)) : Prop := w.ownsRow 0 9 1 v l.length (l.map fun t => Value.string (bs t))
theorem Txts.nil (w : World) : Txts w (.slice none 0 0) [] := World.ownsRow_nil _ _ _ _
theorem Txts.below {w w' : World} {v : Value} {l : List (List UInt8)} (h : Txts w v l) (hb : Below w.heap.size w w') : Txts w' v l := by
 refine World.ownsRow.kept h (grown_of_below hb none) ?_
 cases hv : v.ownBlock with
 | none => exact .inl rfl
 | some g => exact .inr (by simp)
theorem Txts.grown {w w' : World} {v : Value} {l : List (List UInt8)} {k : Nat} {t : TypeId} {cs : List Value} (h : Txts w v l) (hg : w.grownBy w' (some k)) (hk : Blk w k t cs) (ht : t ≠ 9) : Txts w' v l := by
 refine World.ownsRow.kept h hg ?_
 cases hv : v.ownBlock with
 | none => exact .inl rfl
 | some g =>
  refine .inr ?_
  intro e
  injection e with e
  subst e
  rcases h.2 with ⟨rfl, _⟩ | ⟨g', cap, cur, rfl, _, hh, _⟩
  ·
   simp [Value.ownBlock] at hv
  ·
   have : g' = g := by simpa [Value.ownBlock] using hv
   subst this
   unfold Blk at hk
   rw [hh] at hk
   injection hk with hk
   injection hk with _ he
   exact ht he.symm
def TxtR (w : World) (A : Option Addr) (l : List (List UInt8)) : Prop := 0 < l.length → ∃ b off, A = some ⟨b, off, none⟩ ∧ b < w.heap.size ∧ ∀ i (hi : i < l.length), w.cell? ⟨b, off + i, none⟩ = some (.string (bs l[i]))
theorem Txts.form {w : World} {v : Value} {l : List (List UInt8)} (h : Txts w v l) : ∃ A c, v = .slice A l.length c ∧ TxtR w A l ∧ l.length ≤ c := by
 rcases h.2 with ⟨rfl, h0⟩ | ⟨g, cap, cur, rfl, _, hh, hnc, _⟩
 ·
  refine ⟨none, 0, ?_, fun hp => absurd hp (by omega), by omega⟩
  rw [h0]
 ·
  refine ⟨some ⟨g, 0, none⟩, cap, rfl, fun _ => ⟨g, 0, rfl, ?_, fun i hi => ?_⟩, hnc⟩
  ·
   rcases Nat.lt_or_ge g w.heap.size with hlt | hge
   ·
    exact hlt
   ·
    rw [Array.getElem?_eq_none hge] at hh; cases hh
  ·
   have := World.ownsRow.cellAt h i (by omega)
   rw [Nat.zero_add, this]
   simp [hi]
theorem TxtR.below {w w' : World} {A : Option Addr} {l : List (List UInt8)} (h : TxtR w A l) (hb : Below w.heap.size w w') : TxtR w' A l := by
 intro hp
 obtain ⟨b, off, hA, hlt, hc⟩ := h hp
 exact ⟨b, off, hA, Nat.lt_of_lt_of_le hlt hb.size, fun i hi => (hb.cell hlt).trans (hc i hi)⟩
def octs (l : List UInt8) : List Value := l.map fun b => Value.int .u8 (b.toNat : Int)
theorem octs_length (l : List UInt8) : (octs l).length = l.length := by simp [octs]
theorem octs_app (a b : List UInt8) : octs (a ++ b) = octs a ++ octs b := by simp [octs]
theorem octs_get (l : List UInt8) (j : Nat) (h : j < l.length) : (octs l)[j]? = some (.int .u8 (l[j].toNat : Int)) := by simp [octs, h]
theorem byteInfo : (prog.info? 5).map (fun i => (i.zero, i.size, i.bytes)) = some (some (.int .u8 0), 1, 1) := by kernel_rfl
theorem byteSize : (prog.info? 5).map (·.size) = some 1 := by kernel_rfl
theorem setRow_blk {w : World} {g : Nat} {t : TypeId} {cs : List Value} (h : Blk w g t cs) (ds : List Value) : Blk (w.setRow g ds.toArray) g t ds := setRow_heap _ _ cs.toArray _ t (0, 0) h
end Go.Proofs.YteimenplbanooaaGreatDoor
