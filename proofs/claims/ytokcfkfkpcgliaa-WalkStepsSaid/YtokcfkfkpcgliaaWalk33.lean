/-
  Layer 33 (walk), its reference, and what the law of it asks.
-/
import Derived.Test.YtokcfkfkpcgliaaBase
namespace Go.Proofs.Ytokcfkfkpcgliaa
open Go.RowKit

def statusOf (v : Int) : Int := if v = 1 then 0 else if v = 3 ∨ v = 2 then 1 else if v = 4 then 3 else 2
def codeOf (v : Int) : Int := if v = 1 then 0 else if v = 3 then 3 else if v = 2 then 4 else if v = 4 then 1 else if v = 5 then 2 else 10

theorem status_any (v : Int) (w : World) : Calls Try.prog 16 #[.int .i64 v] w (Ret (.int .i64 (statusOf v)) w) := by
  go_enter Try.func16, Try.ntmps16
  go_wp2
  all_goals go_ret
  all_goals (refine Ret.mk ?_ rfl; simp_all [statusOf])

theorem code_any (v : Int) (w : World) : Calls Try.prog 18 #[.int .i64 v] w (Ret (.int .i64 (codeOf v)) w) := by
  go_enter Try.func18, Try.ntmps18
  go_wp2
  all_goals go_ret
  all_goals (refine Ret.mk ?_ rfl; simp_all [codeOf])

set_option maxRecDepth 100000 in
theorem refStatus_any (v : Int) (w : World) : Calls Try.prog 17 #[.int .i64 v] w (Ret (.int .i64 (statusOf v)) w) := by
  by_cases h1 : v < 1
  · go_enter Try.func17, Try.ntmps17
    go_wp2
    go_ret
    exact Ret.mk (ret_int (by unfold statusOf; split <;> (try split) <;> (try split) <;> omega)) rfl
  by_cases h2 : 4 < v
  · go_enter Try.func17, Try.ntmps17
    go_wp2
    go_ret
    exact Ret.mk (ret_int (by unfold statusOf; split <;> (try split) <;> (try split) <;> omega)) rfl
  have hv : v = 1 ∨ v = 2 ∨ v = 3 ∨ v = 4 := by omega
  rcases hv with rfl | rfl | rfl | rfl
  · have hi : ∀ w : World, (Instr.index 87 (.agg #[.int .i64 0, .int .i64 0, .int .i64 1, .int .i64 1, .int .i64 3]) (.int .i64 1)).run Try.prog w = .ok (.int .i64 0) w := fun _ => by kernel_rfl
    go_enter Try.func17, Try.ntmps17
    go_wp2
    go_ret
    exact Ret.mk rfl rfl
  · have hi : ∀ w : World, (Instr.index 87 (.agg #[.int .i64 0, .int .i64 0, .int .i64 1, .int .i64 1, .int .i64 3]) (.int .i64 2)).run Try.prog w = .ok (.int .i64 1) w := fun _ => by kernel_rfl
    go_enter Try.func17, Try.ntmps17
    go_wp2
    go_ret
    exact Ret.mk rfl rfl
  · have hi : ∀ w : World, (Instr.index 87 (.agg #[.int .i64 0, .int .i64 0, .int .i64 1, .int .i64 1, .int .i64 3]) (.int .i64 3)).run Try.prog w = .ok (.int .i64 1) w := fun _ => by kernel_rfl
    go_enter Try.func17, Try.ntmps17
    go_wp2
    go_ret
    exact Ret.mk rfl rfl
  · have hi : ∀ w : World, (Instr.index 87 (.agg #[.int .i64 0, .int .i64 0, .int .i64 1, .int .i64 1, .int .i64 3]) (.int .i64 4)).run Try.prog w = .ok (.int .i64 3) w := fun _ => by kernel_rfl
    go_enter Try.func17, Try.ntmps17
    go_wp2
    go_ret
    exact Ret.mk rfl rfl

set_option maxRecDepth 100000 in
theorem refCode_any (v : Int) (w : World) : Calls Try.prog 19 #[.int .i64 v] w (Ret (.int .i64 (codeOf v)) w) := by
  by_cases h1 : v < 1
  · go_enter Try.func19, Try.ntmps19
    go_wp2
    go_ret
    exact Ret.mk (ret_int (by simp only [codeOf, show ¬ v = 1 by omega, show ¬ v = 2 by omega, show ¬ v = 3 by omega, show ¬ v = 4 by omega, show ¬ v = 5 by omega, if_false])) rfl
  by_cases h2 : 5 < v
  · go_enter Try.func19, Try.ntmps19
    go_wp2
    go_ret
    exact Ret.mk (ret_int (by simp only [codeOf, show ¬ v = 1 by omega, show ¬ v = 2 by omega, show ¬ v = 3 by omega, show ¬ v = 4 by omega, show ¬ v = 5 by omega, if_false])) rfl
  have hv : v = 1 ∨ v = 2 ∨ v = 3 ∨ v = 4 ∨ v = 5 := by omega
  rcases hv with rfl | rfl | rfl | rfl | rfl
  · have hi : ∀ w : World, (Instr.index 88 (.agg #[.int .i64 0, .int .i64 0, .int .i64 4, .int .i64 3, .int .i64 1, .int .i64 2]) (.int .i64 1)).run Try.prog w = .ok (.int .i64 0) w := fun _ => by kernel_rfl
    go_enter Try.func19, Try.ntmps19
    go_wp2
    go_ret
    exact Ret.mk rfl rfl
  · have hi : ∀ w : World, (Instr.index 88 (.agg #[.int .i64 0, .int .i64 0, .int .i64 4, .int .i64 3, .int .i64 1, .int .i64 2]) (.int .i64 2)).run Try.prog w = .ok (.int .i64 4) w := fun _ => by kernel_rfl
    go_enter Try.func19, Try.ntmps19
    go_wp2
    go_ret
    exact Ret.mk rfl rfl
  · have hi : ∀ w : World, (Instr.index 88 (.agg #[.int .i64 0, .int .i64 0, .int .i64 4, .int .i64 3, .int .i64 1, .int .i64 2]) (.int .i64 3)).run Try.prog w = .ok (.int .i64 3) w := fun _ => by kernel_rfl
    go_enter Try.func19, Try.ntmps19
    go_wp2
    go_ret
    exact Ret.mk rfl rfl
  · have hi : ∀ w : World, (Instr.index 88 (.agg #[.int .i64 0, .int .i64 0, .int .i64 4, .int .i64 3, .int .i64 1, .int .i64 2]) (.int .i64 4)).run Try.prog w = .ok (.int .i64 1) w := fun _ => by kernel_rfl
    go_enter Try.func19, Try.ntmps19
    go_wp2
    go_ret
    exact Ret.mk rfl rfl
  · have hi : ∀ w : World, (Instr.index 88 (.agg #[.int .i64 0, .int .i64 0, .int .i64 4, .int .i64 3, .int .i64 1, .int .i64 2]) (.int .i64 5)).run Try.prog w = .ok (.int .i64 2) w := fun _ => by kernel_rfl
    go_enter Try.func19, Try.ntmps19
    go_wp2
    go_ret
    exact Ret.mk rfl rfl
end Go.Proofs.Ytokcfkfkpcgliaa
