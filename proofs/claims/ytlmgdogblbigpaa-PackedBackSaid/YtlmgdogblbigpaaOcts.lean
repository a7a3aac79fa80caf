/-
  Rows of octets that a call makes: make, copy from a string, string(..).
-/
import Derived.Test.YtlmgdogblbigpaaNum
import Derived.Lib.BufferWrite
import Derived.Laws.CopyOwn
namespace Go.Proofs.Ytlmgdogblbigpaa
open Go.RowKit
set_option maxRecDepth 100000

/-- Octets as cells. -/
def octs (l : List UInt8) : List Value := l.map fun b => Value.int .u8 (b.toNat : Int)
theorem octs_length (l : List UInt8) : (octs l).length = l.length := by simp [octs]
theorem octs_app (a b : List UInt8) : octs (a ++ b) = octs a ++ octs b := by simp [octs]
theorem octs_get (l : List UInt8) (j : Nat) (h : j < l.length) : (octs l)[j]? = some (.int .u8 (l[j].toNat : Int)) := by simp [octs, h]
theorem byteInfo : (Try.prog.info? 5).map (fun i => (i.zero, i.size, i.bytes)) = some (some (.int .u8 0), 1, 1) := by kernel_rfl
theorem byteSize : (Try.prog.info? 5).map (·.size) = some 1 := by kernel_rfl
theorem byteCellsOf : Try.prog.cellsOf 5 = 1 := by kernel_rfl

theorem madeCells_list (z : Value) (n : Nat) (h : z.cells = #[z]) : (madeCells z.cells n).toList = List.replicate n z := by
  rw [h]
  simp [madeCells, Nat.mod_one, List.map_const']

/-- 'make([]byte, n)', in whatever world. -/
theorem run_mkbytes (n : Nat) (hn : n ≤ 281474976710656) (W : World) : (Instr.makeSlice 94 (.int .i64 (n : Int)) (.int .i64 (n : Int))).run Try.prog W = .ok (.slice (some ⟨W.heap.size, 0, none⟩) n n) (W.alloc (.cells (octs (List.replicate n 0)).toArray 5)) := by
  obtain ⟨i0, hi, hz0, hz1, hz2⟩ := info_parts byteInfo
  have h := run_make (P := Try.prog) W 94 5 i0 (.int .u8 0) Try.underlying94 hi hz0 .i64 .i64 (n : Int) (n : Int) (by omega) (by omega) (by rw [hz2]; omega) (by omega)
  rw [hz1] at h
  have e : (madeCells (Value.int .u8 0).cells (((n : Nat) : Int).toNat * 1)) = (octs (List.replicate n 0)).toArray := by
    have := madeCells_list (.int .u8 0) n rfl
    rw [Int.toNat_natCast, Nat.mul_one]
    apply Array.toList_inj.1
    rw [this]; simp [octs]
  rw [e] at h
  simpa using h

theorem setRow_blk {w : World} {g : Nat} {t : TypeId} {cs : List Value} (h : Blk w g t cs) (ds : List Value) : Blk (w.setRow g ds.toArray) g t ds := setRow_heap _ _ cs.toArray _ t (0, 0) h
theorem setRow_far {w : World} {g g' : Nat} {t : TypeId} {cs : List Value} (h : Blk w g t cs) (ds : Array Value) (hne : g ≠ g') : Blk (w.setRow g' ds) g t cs := (setRow_other _ _ _ _ hne).trans h
theorem below_setRow {B : Nat} {a w : World} {g : Nat} (h : Below B a w) (hg : B ≤ g) (ds : Array Value) : Below B a (w.setRow g ds) :=
  h.trans ⟨rfl, rfl, rfl, by simp, fun k hk => setRow_other _ _ _ _ (by omega)⟩

/-- 'copy(b[o:], s)', s a string that fits, b a row known whole. -/
theorem run_copy_str (W : World) (g o len cap : Nat) (s : List UInt8) (cs : List Value) (h : Blk W g 5 cs) (hle : s.length ≤ len) (hfit : o + s.length ≤ cs.length) :
    (Builtin.copy_ #[94, 9] 3 #[.slice (some ⟨g, o, none⟩) len cap, .string (bs s)]).run Try.prog W = .ok (.int .i64 s.length) (W.setRow g (cs.take o ++ octs s ++ cs.drop (o + s.length)).toArray) := by
  have := Lib.run_copy_row_string (P := Try.prog) W 94 9 3 5 g o len cap (bs s) cs.toArray 5 Try.underlying94 byteSize h (by simpa using hle) (by simpa using hfit)
  rw [this]
  simp [goInt, bs, Lib.byteCells, octs, ByteArray.size]

/-- 'string(b)', b a row known whole. -/
theorem run_str_of_row (W : World) (g cap : Nat) (l : List UInt8) (cs : List Value) (h : Blk W g 5 cs) (hl : cs.take l.length = octs l) :
    (convert 94 9 (.slice (some ⟨g, 0, none⟩) l.length cap)).run Try.prog W = .ok (.string (bs l)) W := by
  refine run_convert_bytes_back W 94 9 5 ⟨g, 0, none⟩ cap l Try.underlying94 Try.underlying5 Try.underlying9 ?_
  intro j hj
  have hc := h.cell j
  have e : cs[j]? = (cs.take l.length)[j]? := by rw [List.getElem?_take_of_lt hj]
  rw [e, hl, octs_get l j hj] at hc
  rw [← hc]
  congr 1
  unfold Addr.add
  split <;> simp_all

end Go.Proofs.Ytlmgdogblbigpaa
