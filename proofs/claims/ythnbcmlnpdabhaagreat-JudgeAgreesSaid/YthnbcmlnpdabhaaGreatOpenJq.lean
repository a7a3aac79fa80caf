/-
  The arguments of JudgeAgrees: events, with the room of their row.
-/
import Derived.Test.YthnbcmlnpdabhaaGreatOpenXq
namespace Go.Proofs.YthnbcmlnpdabhaaGreat
open _root_.Go.Proofs.Tryz
open Go.RowKit
set_option maxRecDepth 100000
set_option linter.unusedVariables false
set_option linter.unusedSimpArgs false
section
variable {H : Type} {enc : TypeId × Value -> H} {w : World} {cs : List Value}
theorem NO (h : oj enc prog w 56 cs) : ∃ A c l, cs = [.slice A (l : List Ev).length c] /\ tx w A l /\ l.length <= 17592186044416 /\ l.length <= c := by
 have c9 : prog.cellsOf 42 = 22 := by kernel_rfl
 have b9 : prog.bytesOf 42 = 72 := by kernel_rfl
 obtain ⟨A, n, c, rfl, hnc, _, hby, hn⟩ := h.slice underlying56 (by rw [c9]; omega);rw [b9] at hby;by_cases hpos : 0 < n
 ·
  obtain ⟨b, off, rfl, hb, hi⟩ := hn hpos;rw [c9] at hi;have key : ∀ i, i < n -> ∃ e : Ev, w.rangeAt b (off + i * 22) (qm e) /\ IB e := by
   intro i hin;obtain ⟨cs', hl, hc, hs⟩ := hi i hin;obtain ⟨e, rfl, h1, h2⟩ := QJ hs;refine ⟨e, fun j v hv => ?_, h1, h2⟩;have hj : j < 22 := by rw [<- hl]; exact (List.getElem?_eq_some_iff.1 hv).1
   rw [hc j hj]; exact hv
  haveI : Inhabited Ev := ⟨⟨0, oi.zero, 0, 0, []⟩⟩
  obtain ⟨f, hf⟩ := Deep.choose_lt key;refine ⟨some ⟨b, off, none⟩, c, (List.range n).map f, ag, ⟨fun e he => ?_, fun _ => ⟨b, off, rfl, hb, fun i hin => ?_⟩⟩, al, al⟩
  ·obtain ⟨i, hi, rfl⟩ := List.mem_map.1 he;exact (hf i (List.mem_range.1 hi)).2
  ·have hin' : i < n := jk;simpa using (hf i hin').1
 ·obtain rfl : n = 0 := ak;exact ⟨A, c, [], rfl, ⟨ag, fun h => absurd h ag⟩, ag, ag⟩
end
end Go.Proofs.YthnbcmlnpdabhaaGreat
