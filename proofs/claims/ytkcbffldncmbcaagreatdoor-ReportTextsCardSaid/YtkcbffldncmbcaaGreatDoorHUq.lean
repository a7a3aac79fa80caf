/-
  Messages: as data, as cells, as octets.
-/
import Derived.Test.YtkcbffldncmbcaaGreatDoorHSq
import Derived.Test.YtkcbffldncmbcaaGreatDoorHTq
namespace Go.Proofs.YtkcbffldncmbcaaGreatDoor
open _root_.Go.Proofs.Tryz
open Go.RowKit
set_option maxRecDepth 100000
set_option linter.unusedVariables false
set_option linter.unusedSimpArgs false
structure Qn where
 name : List (List UInt8)
 ty : Int
 cl : Int
deriving DecidableEq
structure Msg where
 hd : Hd
 qs : List Qn
 an : List RR
 au : List RR
 ex : List RR
deriving DecidableEq
abbrev WS := List UInt8 × Option Tab
def RRsR (w : World) (A : Option Addr) (l : List RR) : Prop := 0 < l.length → ∃ b off, A = some ⟨b, off, none⟩ ∧ b < w.heap.size ∧ ∀ i (hi : i < l.length), ∃ cs, w.rangeAt b (off + i * 33) cs ∧ RRis w cs l[i]
theorem range_below {w w' : World} {B b o : Nat} {cs : List Value} (h : w.rangeAt b o cs) (hb : Below B w w') (hB : b < B) : w'.rangeAt b o cs := fun j v hv => (hb.cell hB).trans (h j v hv)
theorem RRsR.below {w w' : World} {A : Option Addr} {l : List RR} (h : RRsR w A l) (hb : Below w.heap.size w w') : RRsR w' A l := by
 intro hl
 obtain ⟨b, off, h1, h2, h3⟩ := h hl
 refine ⟨b, off, h1, Nat.lt_of_lt_of_le h2 hb.size, fun i hi => ?_⟩
 obtain ⟨cs, h4, h5⟩ := h3 i hi
 exact ⟨cs, range_below h4 hb h2, h5.below hb⟩
open Go.ChangeShapes Go.WideShapes Go.ChangeAt Go.RowKit
theorem dsplit (cs : List Value) (n k m : Nat) (h : m = n + k) : cs.drop n = (cs.drop n).take k ++ cs.drop m := by
 subst h; rw [← List.drop_drop, List.take_append_drop]
theorem octs_of : ∀ (cs : List Value), (∀ (i : Nat) (hi : i < cs.length), ∃ b : UInt8, cs[i] = .int .u8 (b.toNat : Int)) → ∃ l : List UInt8, cs = octs l
 | [], _ => ⟨[], rfl⟩
 | c :: cs, h => by
  obtain ⟨b, hb⟩ := h 0 (by simp)
  obtain ⟨l, hl⟩ := octs_of cs (fun i hi => by have := h (i + 1) (by simpa using hi); simpa using this)
  simp at hb
  exact ⟨b :: l, by rw [hb, hl]; rfl⟩
theorem ints_of : ∀ (cs : List Value), (∀ (i : Nat) (hi : i < cs.length), ∃ b : Int, cs[i] = .int .i64 b) → ∃ l : List Int, cs = ints64 l
 | [], _ => ⟨[], rfl⟩
 | c :: cs, h => by
  obtain ⟨b, hb⟩ := h 0 (by simp)
  obtain ⟨l, hl⟩ := ints_of cs (fun i hi => by have := h (i + 1) (by simpa using hi); simpa using this)
  simp at hb
  exact ⟨b :: l, by rw [hb, hl]; rfl⟩
theorem take1 {cs : List Value} {i : Nat} {v : Value} (hi : i < cs.length) (h : (cs.drop i).take 1 = [v]) : cs[i] = v := by
 have : ((cs.drop i).take 1)[0]? = some v := by rw [h]; rfl
 rw [List.getElem?_take_of_lt (by omega), List.getElem?_drop, Nat.add_zero, List.getElem?_eq_getElem hi] at this
 exact Option.some.inj this
section
variable {H : Type} {enc : TypeId × Value → H} {w : World} {cs : List Value}
theorem seen_int (h : SeenW enc prog w 3 cs) : ∃ n : Int, cs = [.int .i64 n] := by obtain ⟨n, e, _⟩ := h.int underlying3; exact ⟨n, e⟩
theorem seen_16 (h : SeenW enc prog w 29 cs) : ∃ l : List UInt8, l.length = 16 ∧ cs = octs l := by
 have c16 : prog.cellsOf 29 = 16 := by kernel_rfl
 have c1 : prog.cellsOf 5 = 1 := by kernel_rfl
 obtain ⟨hl, hf⟩ := h.array underlying29
 rw [c16] at hl
 rw [c1] at hf
 obtain ⟨l, e⟩ := octs_of cs (fun i hi => by
  obtain ⟨n, e, hw⟩ := (hf i (by omega)).int underlying5
  rw [Nat.mul_one] at e
  have e2 := take1 hi e
  simp only [Lit.wf, Bool.and_eq_true, decide_eq_true_eq] at hw
  have h0 : 0 ≤ n := hw.1
  have h1 : n ≤ 255 := hw.2
  refine ⟨UInt8.ofNat n.toNat, ?_⟩
  rw [e2]
  have e3 : (UInt8.ofNat n.toNat).toNat = n.toNat := by rw [UInt8.toNat_ofNat']; exact Nat.mod_eq_of_lt (by omega)
  rw [e3, Int.toNat_of_nonneg h0])
 refine ⟨l, ?_, e⟩
 rw [e, octs_length] at hl
 exact hl
theorem seen_5 (h : SeenW enc prog w 43 cs) : ∃ l : List Int, l.length = 5 ∧ cs = ints64 l := by
 have c16 : prog.cellsOf 43 = 5 := by kernel_rfl
 have c1 : prog.cellsOf 3 = 1 := by kernel_rfl
 obtain ⟨hl, hf⟩ := h.array underlying43
 rw [c16] at hl
 rw [c1] at hf
 obtain ⟨l, e⟩ := ints_of cs (fun i hi => by
  obtain ⟨n, e⟩ := seen_int (hf i (by omega))
  rw [Nat.mul_one] at e
  exact ⟨n, take1 hi e⟩)
 refine ⟨l, ?_, e⟩
 rw [e] at hl
 simpa [ints64] using hl
theorem seen_adr (h : SeenW enc prog w 31 cs) : ∃ a : Adr, a.ip.length = 16 ∧ cs = a.cells := by
 have c18 : prog.cellsOf 31 = 18 := by kernel_rfl
 have c1 : prog.cellsOf 3 = 1 := by kernel_rfl
 have c16 : prog.cellsOf 29 = 16 := by kernel_rfl
 obtain ⟨hl, hf⟩ := h.struct underlying31
 rw [c18] at hl
 have h0 : SeenW enc prog w 3 ((cs.drop 0).take (prog.cellsOf 3)) := hf 0 _ rfl
 have h1 : SeenW enc prog w 29 ((cs.drop 1).take (prog.cellsOf 29)) := hf 1 _ rfl
 have h2 : SeenW enc prog w 3 ((cs.drop 17).take (prog.cellsOf 3)) := hf 2 _ rfl
 rw [c1] at h0 h2
 rw [c16] at h1
 obtain ⟨f, e0⟩ := seen_int h0
 obtain ⟨ip, i16, e1⟩ := seen_16 h1
 obtain ⟨z, e2⟩ := seen_int h2
 refine ⟨⟨f, ip, z⟩, i16, ?_⟩
 show cs.drop 0 = _
 rw [dsplit cs 0 1 1 rfl, e0, dsplit cs 1 16 17 rfl, e1, dsplit cs 17 1 18 rfl, e2, List.drop_of_length_le (by omega)]
 rfl
end
theorem wpList_ldR {P : Program} {ops : Array Oper} {rest : List Oper} {op : Oper} {a : Act} {w : World} {Q : Exit → Act → World → Prop} (hgd : op.guard = none) (ty : TypeId) (x : Operand) (ho : op.op = .load ty x)
  (b o : Nat) (hx : a.eval x = .pointer (some ⟨b, o, none⟩)) (cs : List Value) (hc : w.rangeAt b o cs) (d : TypeDesc)
  (hu : P.underlying ty = some d) (hd : d.isRow = true) (hi : (P.info? ty).map (·.size) = some cs.length)
  (h : wpList P ops Q rest (a.put op.dst (.agg cs.toArray)) w) : wpList P ops Q (op :: rest) a w :=
 wpList_plain hgd fun K hK => wp_load_mid ty x ho b o hx cs d hc hu hd hi (hK _ _ h)
theorem RRis.len {w : World} {cs : List Value} {r : RR} (h : RRis w cs r) : cs.length = 33 := by obtain ⟨_, _, _, _, _, _, rfl, hr, _⟩ := h; exact rrC_len hr
theorem RRis.one {w : World} {cs : List Value} {r : RR} (h : RRis w cs r) : ∀ v ∈ cs, v.oneCell' = true := by obtain ⟨_, _, _, _, _, _, rfl, hr, _⟩ := h; exact rrC_one rfl rfl rfl
end Go.Proofs.YtkcbffldncmbcaaGreatDoor
