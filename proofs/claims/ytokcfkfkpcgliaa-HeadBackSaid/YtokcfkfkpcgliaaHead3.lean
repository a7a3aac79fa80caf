/-
  Layer 11 (head): a head put in octets.
-/
import Derived.Test.YtokcfkfkpcgliaaHead2
namespace Go.Proofs.Ytokcfkfkpcgliaa
open Go.RowKit
set_option maxRecDepth 100000

theorem within_any (n m : Int) (w : World) : Calls Try.prog 60 #[.int .i64 n, .int .i64 m] w (Ret (.bool (decide (0 ≤ n ∧ n ≤ m))) w) := by
  by_cases h0 : 0 ≤ n
  · by_cases h1 : n ≤ m
    all_goals
      go_enter Try.func60, Try.ntmps60
      go_wp2
      go_ret
      exact Ret.mk (ret_bool (by simp [h0, h1])) rfl
  · go_enter Try.func60, Try.ntmps60
    go_wp2
    go_ret
    exact Ret.mk (ret_bool (by simp; omega)) rfl
theorem within_yes (n m : Int) (w : World) (h : 0 ≤ n ∧ n ≤ m) : Calls Try.prog 60 #[.int .i64 n, .int .i64 m] w (Ret (.bool true) w) := by
  have := within_any n m w; rwa [decide_eq_true h] at this
theorem within_no (n m : Int) (w : World) (h : ¬ (0 ≤ n ∧ n ≤ m)) : Calls Try.prog 60 #[.int .i64 n, .int .i64 m] w (Ret (.bool false) w) := by
  have := within_any n m w; rwa [decide_eq_false h] at this

/-- May a head be? -/
def Hd.ok (h : Hd) : Bool := decide (0 ≤ h.id ∧ h.id ≤ 65535) && decide (0 ≤ h.op ∧ h.op ≤ 15) && decide (0 ≤ h.rc ∧ h.rc ≤ 15)
def bitw (b : Bool) (n : Int) : Int := if b then n else 0
theorem bitw_le (b : Bool) (n : Int) (h : 0 ≤ n) : 0 ≤ bitw b n ∧ bitw b n ≤ n := by cases b <;> simp [bitw] <;> omega
theorem bit_any (b : Bool) (n : Int) (w : World) : Calls Try.prog 59 #[.bool b, .int .i64 n] w (Ret (.int .i64 (bitw b n)) w) := by
  cases b
  all_goals
    go_enter Try.func59, Try.ntmps59
    go_wp2
    go_ret
    exact Ret.mk rfl rfl
theorem flag_any (b : Bool) (n : Int) (w : World) : Calls Try.prog 61 #[.bool b, .int .i64 n] w (Ret (.int .i64 (bitw b n)) w) := by
  cases b
  all_goals
    go_enter Try.func61, Try.ntmps61
    go_wp2
    go_ret
    exact Ret.mk rfl rfl

theorem check_any (h : Hd) (w : World) : Calls Try.prog 37 #[h.agg] w (RetB (.int .i64 (if h.ok then 0 else 4)) w) := by
  obtain ⟨id, qr, op, aa, tc, rd, ra, ad, cd, rc⟩ := h
  simp only [Hd.agg]
  by_cases h1 : 0 ≤ id ∧ id ≤ 65535
  · by_cases h2 : 0 ≤ op ∧ op ≤ 15
    · by_cases h3 : 0 ≤ rc ∧ rc ≤ 15
      · rw [show Hd.ok _ = true by simp [Hd.ok, h1, h2, h3]]
        go_enter Try.func37, Try.ntmps37
        go_wp2_with (go_at_call 60; refine (within_yes _ _ _ (by assumption)).mono ?_; rintro e w' ⟨rfl, rfl⟩)
        go_ret
        exact RetB.mk rfl (by go_grown)
      · rw [show Hd.ok _ = false by simp [Hd.ok, h1, h2, h3]]
        go_enter Try.func37, Try.ntmps37
        go_wp2_with (go_at_call 60; first | (refine (within_yes _ _ _ (by assumption)).mono ?_; rintro e w' ⟨rfl, rfl⟩) | (refine (within_no _ _ _ (by assumption)).mono ?_; rintro e w' ⟨rfl, rfl⟩))
        go_ret
        exact RetB.mk rfl (by go_grown)
    · rw [show Hd.ok _ = false by simp [Hd.ok, h1, h2]]
      go_enter Try.func37, Try.ntmps37
      go_wp2_with (go_at_call 60; first | (refine (within_yes _ _ _ (by assumption)).mono ?_; rintro e w' ⟨rfl, rfl⟩) | (refine (within_no _ _ _ (by assumption)).mono ?_; rintro e w' ⟨rfl, rfl⟩))
      go_ret
      exact RetB.mk rfl (by go_grown)
  · rw [show Hd.ok _ = false by simp [Hd.ok, h1]]
    go_enter Try.func37, Try.ntmps37
    go_wp2_with (go_at_call 60; refine (within_no _ _ _ (by assumption)).mono ?_; rintro e w' ⟨rfl, rfl⟩)
    go_ret
    exact RetB.mk rfl (by go_grown)

theorem refCheck_any (h : Hd) (w : World) : Calls Try.prog 38 #[h.agg] w (RetB (.int .i64 (if h.ok then 0 else 4)) w) := by
  obtain ⟨id, qr, op, aa, tc, rd, ra, ad, cd, rc⟩ := h
  simp only [Hd.agg]
  by_cases h1 : id < 0
  · rw [show Hd.ok _ = false by simp [Hd.ok]; omega]
    go_enter Try.func38, Try.ntmps38
    go_wp2
    go_ret
    exact RetB.mk rfl (by go_grown)
  by_cases h2 : 65535 < id
  · rw [show Hd.ok _ = false by simp [Hd.ok]; omega]
    go_enter Try.func38, Try.ntmps38
    go_wp2
    go_ret
    exact RetB.mk rfl (by go_grown)
  by_cases h3 : op < 0
  · rw [show Hd.ok _ = false by simp [Hd.ok]; omega]
    go_enter Try.func38, Try.ntmps38
    go_wp2
    go_ret
    exact RetB.mk rfl (by go_grown)
  by_cases h4 : 15 < op
  · rw [show Hd.ok _ = false by simp [Hd.ok]; omega]
    go_enter Try.func38, Try.ntmps38
    go_wp2
    go_ret
    exact RetB.mk rfl (by go_grown)
  by_cases h5 : rc < 0
  · rw [show Hd.ok _ = false by simp [Hd.ok]; omega]
    go_enter Try.func38, Try.ntmps38
    go_wp2
    go_ret
    exact RetB.mk rfl (by go_grown)
  by_cases h6 : 15 < rc
  · rw [show Hd.ok _ = false by simp [Hd.ok]; omega]
    go_enter Try.func38, Try.ntmps38
    go_wp2
    go_ret
    exact RetB.mk rfl (by go_grown)
  · rw [show Hd.ok _ = true by simp [Hd.ok]; omega]
    go_enter Try.func38, Try.ntmps38
    go_wp2
    go_ret
    exact RetB.mk rfl (by go_grown)
end Go.Proofs.Ytokcfkfkpcgliaa
