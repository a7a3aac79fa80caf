/-
  Layer 15 (stream): what the laws ask: works().
-/
import Derived.Test.YtokcfkfkpcgliaaSame
namespace Go.Proofs.Ytokcfkfkpcgliaa
open Go.RowKit
set_option maxRecDepth 100000

theorem joinNew (w : World) : JoinAt (w.alloc (.cells #[.pointer none, .int .i64 0, .int .u8 0, .int .u8 0] 43)) w.heap.size [] :=
  ⟨none, [], 0, 0, Blk.new w 43 [.pointer none, .int .i64 0, .int .u8 0, .int .u8 0], rfl, rfl, by simp, by simp⟩

theorem works15 (w : World) : Calls Try.prog 27 #[] w (RetB (.bool true) w) := by
  go_enter Try.func27, Try.ntmps27
  go_wp2_with fail
  refine (feed_any w.heap.size [] [0] _ (joinNew w) (by decide)).mono ?_
  rintro e w1 ⟨v1, rfl, t1, j1, g1⟩
  obtain ⟨A, c, rfl, _, _⟩ := t1.form
  rw [show restF ([] ++ [0]) = [0] from rfl] at j1
  rw [show (frames ([] ++ [0])).length = 0 from rfl]
  go_wp2_with fail
  refine (feed_any w.heap.size [0] [1, 97, 0] _ j1 (by decide)).mono ?_
  rintro e w2 ⟨v2, rfl, t2, j2, g2⟩
  rw [show restF ([0] ++ [1, 97, 0]) = [0] by decide] at j2
  rw [show frames ([0] ++ [1, 97, 0]) = [[97]] by decide] at t2
  obtain ⟨A2, c2, rfl, r2, _⟩ := t2.form
  obtain ⟨b, off, rfl, _, hc⟩ := r2 (by decide)
  have h0 := hc 0 (by decide)
  clear hc
  rw [show ([[97]] : List (List UInt8)).length = 1 from rfl]
  rw [show ([[97]] : List (List UInt8))[0] = [97] from rfl, Nat.add_zero] at h0
  go_wp2_with (go_at_call 31; refine (joinLeft_any _ _ _ j2).mono ?_; rintro e w' ⟨rfl, rfl⟩)
  go_ret
  have hb1 : Below w.heap.size w w1 := below_grown ((Below.refl _ _).alloc (Nat.le_refl _) _) g1 (by simp) (Nat.le_refl _)
  exact RetB.mk rfl (below_grown hb1 g2 hb1.size (Nat.le_refl _))
end Go.Proofs.Ytokcfkfkpcgliaa
