/-
  Layer 14, the laws' own: works.
-/
import Derived.Test.YtlmgdogblbigpaaMf
namespace Go.Proofs.Ytlmgdogblbigpaa
open Go.RowKit
set_option maxRecDepth 100000
set_option linter.unusedVariables false
set_option linter.unusedSimpArgs false

def m14 : Msg := ⟨Hd.zero, [⟨[[97], [98]], 1, 1⟩], [], [], []⟩
theorem enc_m14 : encM m14 true = ([0, 0, 0, 0, 0, 1, 0, 0, 0, 0, 0, 0, 1, 97, 1, 98, 0, 0, 1, 0, 1], 0) := by kernel_rfl
theorem m14_is (w : World) : MsgIs ((w.alloc (.cells #[.string ⟨#[97]⟩, .string ⟨#[98]⟩] 9)).alloc (.cells #[.slice (some ⟨w.heap.size, 0, none⟩) 2 2, .int .i64 1, .int .i64 1] 61)) (msgC Hd.zero (.slice (some ⟨w.heap.size + 1, 0, none⟩) 1 1) (.slice none 0 0) (.slice none 0 0) (.slice none 0 0)) m14 (some ⟨w.heap.size + 1, 0, none⟩) none none none 1 0 0 0 := by
  have B0 := (Blk.new w 9 [.string ⟨#[97]⟩, .string ⟨#[98]⟩]).alloc (.cells #[.slice (some ⟨w.heap.size, 0, none⟩) 2 2, .int .i64 1, .int .i64 1] 61)
  have B1 := Blk.new' (w.alloc (.cells #[.string ⟨#[97]⟩, .string ⟨#[98]⟩] 9)) 61 [.slice (some ⟨w.heap.size, 0, none⟩) 2 2, .int .i64 1, .int .i64 1] (w.heap.size + 1) (by simp)
  refine ⟨rfl, fun _ => ⟨w.heap.size + 1, 0, rfl, B1.lt, fun i hi => ?_⟩, fun h => absurd h (by decide), fun h => absurd h (by decide), fun h => absurd h (by decide), by decide, by decide, by decide, by decide⟩
  obtain rfl : i = 0 := by simp [m14] at hi; omega
  refine ⟨some ⟨w.heap.size, 0, none⟩, 2, ?_, fun _ => ⟨w.heap.size, 0, rfl, B0.lt, fun j hj => ?_⟩, by show ([[97], [98]] : List (List UInt8)).length ≤ 2; decide, by show ([[97], [98]] : List (List UInt8)).length ≤ 17592186044416; decide, by
    intro l hl
    simp [m14] at hl
    rcases hl with rfl | rfl <;> simp⟩
  · exact B1.range 0 3 (by simp)
  · match j, hj with
    | 0, _ => exact B0.cell_ 0 rfl
    | 1, _ => exact B0.cell_ 1 rfl
theorem works14_any (w : World) : Calls Try.prog 28 #[] w (RetB (.bool true) w) := by
  have C := Lib.hid (mencode_any _ m14 true _ _ _ _ _ _ _ _ _ (m14_is w) (by decide) (by decide))
  rw [enc_m14] at C
  have hB : Below w.heap.size w ((w.alloc (.cells #[.string ⟨#[97]⟩, .string ⟨#[98]⟩] 9)).alloc (.cells #[.slice (some ⟨w.heap.size, 0, none⟩) 2 2, .int .i64 1, .int .i64 1] 61)) := ((Below.refl _ _).alloc (Nat.le_refl _) _).alloc (by simp) _
  go_enter Try.func28, Try.ntmps28
  go_wp2_with fail
  refine C.out.mono ?_
  rintro _ w1 ⟨rfl, b1⟩
  have HB := below_then hB hB.size b1
  clear C hB b1
  go_wp2_with fail
  go_ret
  exact RetB.mk rfl HB
end Go.Proofs.Ytlmgdogblbigpaa
