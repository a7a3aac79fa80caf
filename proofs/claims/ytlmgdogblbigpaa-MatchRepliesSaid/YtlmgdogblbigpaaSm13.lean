/-
  Layer 13, the laws' own: Small.
-/
import Derived.Test.YtlmgdogblbigpaaOwn2
import Derived.Test.YtlmgdogblbigpaaGJ
namespace Go.Proofs.Ytlmgdogblbigpaa
open Go.RowKit
set_option maxRecDepth 100000
set_option linter.unusedVariables false
set_option linter.unusedSimpArgs false

def SomeB (w : World) (e : Ending) (w' : World) : Prop := ∃ b, e = .returned (.bool b) ∧ Below w.heap.size w w'
set_option maxHeartbeats 1000000 in
theorem small13_any (cs : List Value) (r : RR) (w : World) (h : RRis w cs r) : Calls Try.prog 50 #[.agg cs.toArray] w (SomeB w) := by
  obtain ⟨An, cn, At, ct, Am, cm, hcs, hr, hN, hT, hM, hraw⟩ := h
  have hl : cs.length = 33 := by rw [hcs]; exact rrC_len hr
  have L0 : cs[0]? = some (.slice An r.name.length cn) := by rw [hcs]; rfl
  have L22 : cs[22]? = some (.slice At r.tg.length ct) := by rw [hcs]; exact rrC_22 hr
  have L23 : cs[23]? = some (.slice Am r.ml.length cm) := by rw [hcs]; exact rrC_23 hr
  have L32 : cs[32]? = some (.string (bs r.raw)) := by rw [hcs]; exact rrC_32 hr
  have B0 := Blk.new w 86 cs
  have HB0 : Below w.heap.size w (w.alloc (.cells cs.toArray 86)) := (Below.refl _ _).alloc (Nat.le_refl _) _
  have F1 := Lib.hid (fewN_any An cn r.name _ (hN.below HB0))
  have F2 := Lib.hid (fewN_any At ct r.tg _ (hT.below HB0))
  have F3 := Lib.hid (fewN_any Am cm r.ml _ (hM.below HB0))
  clear hcs hN hT hM
  generalize decide (lsum r.name ≤ 400) = b1 at *
  generalize decide (lsum r.tg ≤ 400) = b2 at *
  generalize decide (lsum r.ml ≤ 400) = b3 at *
  generalize r.name.length = n1 at *
  generalize r.tg.length = n2 at *
  generalize r.ml.length = n3 at *
  generalize r.raw = raw at *
  have c0 := B0.cell_ 0 L0
  have c22 := B0.cell_ 22 L22
  have c23 := B0.cell_ 23 L23
  have c32 := B0.cell_ 32 L32
  have D : ∃ d, decide ((raw.length : Int) ≤ 70000) = d := ⟨_, rfl⟩
  obtain ⟨d, hd⟩ := D
  go_enter Try.func50, Try.ntmps50
  go_wp2_with fail
  refine F1.out.mono ?_
  rintro _ w1 ⟨rfl, rfl⟩
  cases b1 with
  | false =>
    go_wp2_with fail
    go_ret
    exact ⟨_, rfl, HB0⟩
  | true =>
  go_wp2_with fail
  refine F2.out.mono ?_
  rintro _ w1 ⟨rfl, rfl⟩
  cases b2 with
  | false =>
    go_wp2_with fail
    go_ret
    exact ⟨_, rfl, HB0⟩
  | true =>
  go_wp2_with fail
  refine F3.out.mono ?_
  rintro _ w1 ⟨rfl, rfl⟩
  cases b3 with
  | false =>
    go_wp2_with fail
    go_ret
    exact ⟨_, rfl, HB0⟩
  | true =>
  go_wp2_with fail
  go_ret
  exact ⟨_, rfl, HB0⟩
end Go.Proofs.Ytlmgdogblbigpaa
