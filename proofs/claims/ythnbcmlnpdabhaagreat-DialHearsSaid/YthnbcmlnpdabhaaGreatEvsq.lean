/-
  Lists of events: as cells; what the reading of one says of its cells; Few.
-/
import Derived.Test.YthnbcmlnpdabhaaGreatHQq
namespace Go.Proofs.YthnbcmlnpdabhaaGreat
open _root_.Go.Proofs.Tryz
open Go.ChangeShapes Go.WideShapes Go.ChangeAt Go.RowKit
set_option maxRecDepth 100000
set_option linter.unusedVariables false
set_option linter.unusedSimpArgs false
def EvOk (e : Ev) : Prop := e.fr.ip.length = 16 ∧ e.data.length ≤ 140737488355328
def EvsR (w : World) (A : Option Addr) (l : List Ev) : Prop := (∀ e ∈ l, EvOk e) ∧ (0 < l.length → ∃ b off, A = some ⟨b, off, none⟩ ∧ b < w.heap.size ∧ ∀ i (hi : i < l.length), w.rangeAt b (off + i * 22) (evC l[i]))
theorem EvsR.below {w w' : World} {A : Option Addr} {l : List Ev} (h : EvsR w A l) (hb : Below w.heap.size w w') : EvsR w' A l := by
 refine ⟨h.1, fun hp => ?_⟩
 obtain ⟨b, off, h1, h2, h3⟩ := h.2 hp
 exact ⟨b, off, h1, Nat.lt_of_lt_of_le h2 hb.size, fun i hi => range_below (h3 i hi) hb h2⟩
theorem EvsR.at_ {w : World} {A : Option Addr} {l : List Ev} (h : EvsR w A l) (k : Nat) (hk : k < l.length) : ∃ b off, A = some ⟨b, off, none⟩ ∧ b < w.heap.size ∧ w.rangeAt b (off + k * 22) (evC l[k]) ∧ EvOk l[k] := by
 obtain ⟨b, off, h1, h2, h3⟩ := h.2 (by omega)
 exact ⟨b, off, h1, h2, h3 k hk, h.1 _ (List.getElem_mem hk)⟩
section
variable {H : Type} {enc : TypeId × Value → H} {w : World} {cs : List Value}
theorem seen_ev2 (h : SeenW enc prog w 42 cs) : ∃ e : Ev, cs = evC e ∧ e.fr.ip.length = 16 ∧ e.data.length ≤ 140737488355328 := by
 have c22 : prog.cellsOf 42 = 22 := by kernel_rfl
 have c1 : prog.cellsOf 3 = 1 := by kernel_rfl
 have ca : prog.cellsOf 24 = 18 := by kernel_rfl
 have cs1 : prog.cellsOf 9 = 1 := by kernel_rfl
 obtain ⟨hl, hf⟩ := h.struct underlying42
 rw [c22] at hl
 have h0 : SeenW enc prog w 3 ((cs.drop 0).take (prog.cellsOf 3)) := hf 0 _ rfl
 have h1 : SeenW enc prog w 24 ((cs.drop 1).take (prog.cellsOf 24)) := hf 1 _ rfl
 have h2 : SeenW enc prog w 3 ((cs.drop 19).take (prog.cellsOf 3)) := hf 2 _ rfl
 have h3 : SeenW enc prog w 3 ((cs.drop 20).take (prog.cellsOf 3)) := hf 3 _ rfl
 have h4 : SeenW enc prog w 9 ((cs.drop 21).take (prog.cellsOf 9)) := hf 4 _ rfl
 rw [ca] at h1
 rw [c1] at h0 h2 h3
 rw [cs1] at h4
 obtain ⟨kd, e0⟩ := seen_int h0
 obtain ⟨ad, i16, e1⟩ := seen_adr h1
 obtain ⟨fp, e2⟩ := seen_int h2
 obtain ⟨po, e3⟩ := seen_int h3
 obtain ⟨dt, e4, dl⟩ := h4.string underlying9
 refine ⟨⟨kd, ad, fp, po, dt⟩, ?_, i16, dl⟩
 show cs.drop 0 = _
 rw [dsplit cs 0 1 1 rfl, e0, dsplit cs 1 18 19 rfl, e1, dsplit cs 19 1 20 rfl, e2, dsplit cs 20 1 21 rfl, e3, dsplit cs 21 1 22 rfl, e4, List.drop_of_length_le (by omega)]
 rfl
theorem seen_evs (h : SeenW enc prog w 56 cs) : ∃ A c l, cs = [.slice A (l : List Ev).length c] ∧ EvsR w A l ∧ l.length ≤ 17592186044416 := by
 have c9 : prog.cellsOf 42 = 22 := by kernel_rfl
 have b9 : prog.bytesOf 42 = 72 := by kernel_rfl
 obtain ⟨A, n, c, rfl, hnc, _, hby, hn⟩ := h.slice underlying56 (by rw [c9]; omega)
 rw [b9] at hby
 by_cases hpos : 0 < n
 ·
  obtain ⟨b, off, rfl, hb, hi⟩ := hn hpos
  rw [c9] at hi
  have key : ∀ i, i < n → ∃ e : Ev, w.rangeAt b (off + i * 22) (evC e) ∧ EvOk e := by
   intro i hin
   obtain ⟨cs', hl, hc, hs⟩ := hi i hin
   obtain ⟨e, rfl, h1, h2⟩ := seen_ev2 hs
   refine ⟨e, fun j v hv => ?_, h1, h2⟩
   have hj : j < 22 := by rw [← hl]; exact (List.getElem?_eq_some_iff.1 hv).1
   rw [hc j hj]; exact hv
  haveI : Inhabited Ev := ⟨⟨0, Adr.zero, 0, 0, []⟩⟩
  obtain ⟨f, hf⟩ := Deep.choose_lt key
  refine ⟨some ⟨b, off, none⟩, c, (List.range n).map f, by simp, ⟨fun e he => ?_, fun _ => ⟨b, off, rfl, hb, fun i hin => ?_⟩⟩, by simp; omega⟩
  ·
   obtain ⟨i, hi, rfl⟩ := List.mem_map.1 he
   exact (hf i (List.mem_range.1 hi)).2
  ·
   have hin' : i < n := by simpa using hin
   simpa using (hf i hin').1
 ·
  obtain rfl : n = 0 := by omega
  exact ⟨A, c, [], rfl, ⟨by simp, fun h => absurd h (by simp)⟩, by simp⟩
end
end Go.Proofs.YthnbcmlnpdabhaaGreat
