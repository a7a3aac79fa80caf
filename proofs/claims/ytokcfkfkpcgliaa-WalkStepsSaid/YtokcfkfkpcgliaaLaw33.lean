/-
  WalkSteps: whatever the sources, the place and the status: the law returns true, and nothing that was there has turned.
-/
import Derived.Test.YtokcfkfkpcgliaaWalk33c
namespace Go.Proofs.Ytokcfkfkpcgliaa
open Go.RowKit

/-- The cells of one source, as they are loaded together. -/
theorem load_src {w : World} {b o : Nat} {kd : Int} {s : Nat → Bool} (hk : w.cell? ⟨b, o, none⟩ = some (.int .i64 kd)) (hs : ∀ j, j < 4 → w.cell? ⟨b, o + 1 + j, none⟩ = some (.bool (s j))) :
    w.cell? ⟨b, o, none⟩ = some (.int .i64 kd) ∧ w.cell? ⟨b, o + 1, none⟩ = some (.bool (s 0)) ∧ w.cell? ⟨b, o + 2, none⟩ = some (.bool (s 1)) ∧ w.cell? ⟨b, o + 3, none⟩ = some (.bool (s 2)) ∧ w.cell? ⟨b, o + 4, none⟩ = some (.bool (s 3)) :=
  ⟨hk, hs 0 (by omega), hs 1 (by omega), hs 2 (by omega), hs 3 (by omega)⟩

set_option maxRecDepth 100000 in
theorem walkSteps_long (A : Option Addr) (n c : Nat) (k st : Int) (w : World) (hn : 100 < n) :
    Calls Try.prog 3 #[.slice A n c, .int .i64 k, .int .i64 st] w (RetB (.bool true) w) := by
  have h : (100 : Int) < n := by omega
  go_enter Try.func3, Try.ntmps3
  go_wp2_with (go_at_call 13; refine (works33 _).mono ?_; rintro e w1 ⟨rfl, hb⟩)
  go_ret
  exact RetB.mk rfl hb

set_option maxRecDepth 100000 in
theorem walkSteps_out (A : Option Addr) (n c : Nat) (k st : Int) (w : World) (hn : n ≤ 100) (h : k < 0 ∨ n - 1 ≤ k) :
    Calls Try.prog 3 #[.slice A n c, .int .i64 k, .int .i64 st] w (RetB (.bool true) w) := by
  have hn' : (n : Int) ≤ 100 := by omega
  by_cases h0 : k < 0
  all_goals
    go_enter Try.func3, Try.ntmps3
    go_wp2_with (first
      | (go_at_call 14; refine (next_out _ _ _ _ _ _ (by omega) h).mono ?_; rintro e w' ⟨rfl, rfl⟩)
      | (go_at_call 13; refine (works33 _).mono ?_; rintro e w1 ⟨rfl, hb⟩)
      | (go_at_call 16; refine (status_any _ _).mono ?_; rintro e w' ⟨rfl, rfl⟩)
      | (go_at_call 17; refine (refStatus_any _ _).mono ?_; rintro e w' ⟨rfl, rfl⟩)
      | (go_at_call 18; refine (code_any _ _).mono ?_; rintro e w' ⟨rfl, rfl⟩)
      | (go_at_call 19; refine (refCode_any _ _).mono ?_; rintro e w' ⟨rfl, rfl⟩))
    go_ret
    exact RetB.mk (by simp) hb

set_option maxRecDepth 100000 in
theorem walkSteps_in (A : Option Addr) (n c : Nat) (K : Nat → Int) (S : Nat → Nat → Bool) (k st : Int) (w : World) (hn : n ≤ 100) (h : Srcs w A n K S) (h0 : 0 ≤ k) (h1 : k < n - 1) :
    Calls Try.prog 3 #[.slice A n c, .int .i64 k, .int .i64 st] w (RetB (.bool true) w) := by
  have hn' : (n : Int) ≤ 100 := by omega
  have hS := h
  obtain ⟨b, off, rfl, hb, hc⟩ := h (by omega)
  obtain ⟨i, rfl⟩ := Int.eq_ofNat_of_zero_le h0
  obtain ⟨l0, l1, l2, l3, l4⟩ := load_src (hc i (by omega)).1 (hc i (by omega)).2
  clear hc
  have hi : (i : Int) < n := by omega
  cases hs : S i (stat st)
  · go_enter Try.func3, Try.ntmps3
    go_wp2_with fail
    refine (next_goes _ _ _ K S _ _ _ (by omega) hS (by omega) (by omega) (by rw [Int.toNat_natCast]; exact hs)).mono ?_
    rintro e w' ⟨rfl, rfl⟩
    have H := Lib.hid hs
    clear hs
    go_wp2_with fail
    refine (stops_any (K i) (S i) st _).mono ?_
    rw [H.out]
    rintro e w0 ⟨rfl, hb0⟩
    go_wp2_with (first
      | (go_at_call 13; refine (works33 _).mono ?_; rintro e w1 ⟨rfl, hb1⟩)
      | (go_at_call 16; refine (status_any _ _).mono ?_; rintro e w' ⟨rfl, rfl⟩)
      | (go_at_call 17; refine (refStatus_any _ _).mono ?_; rintro e w' ⟨rfl, rfl⟩)
      | (go_at_call 18; refine (code_any _ _).mono ?_; rintro e w' ⟨rfl, rfl⟩)
      | (go_at_call 19; refine (refCode_any _ _).mono ?_; rintro e w' ⟨rfl, rfl⟩))
    go_ret
    exact RetB.mk (by simp) (below_then hb0 hb0.size hb1)
  · go_enter Try.func3, Try.ntmps3
    go_wp2_with fail
    refine (next_stops _ _ _ K S _ _ _ (by omega) hS (by omega) (by omega) (by rw [Int.toNat_natCast]; exact hs)).mono ?_
    rintro e w' ⟨rfl, rfl⟩
    have H := Lib.hid hs
    clear hs
    go_wp2_with fail
    refine (stops_any (K i) (S i) st _).mono ?_
    rw [H.out]
    rintro e w0 ⟨rfl, hb0⟩
    go_wp2_with (first
      | (go_at_call 13; refine (works33 _).mono ?_; rintro e w1 ⟨rfl, hb1⟩)
      | (go_at_call 16; refine (status_any _ _).mono ?_; rintro e w' ⟨rfl, rfl⟩)
      | (go_at_call 17; refine (refStatus_any _ _).mono ?_; rintro e w' ⟨rfl, rfl⟩)
      | (go_at_call 18; refine (code_any _ _).mono ?_; rintro e w' ⟨rfl, rfl⟩)
      | (go_at_call 19; refine (refCode_any _ _).mono ?_; rintro e w' ⟨rfl, rfl⟩))
    go_ret
    exact RetB.mk (by simp) (below_then hb0 hb0.size hb1)

theorem walkSteps_any (A : Option Addr) (n c : Nat) (K : Nat → Int) (S : Nat → Nat → Bool) (k st : Int) (w : World) (h : Srcs w A n K S) :
    Calls Try.prog 3 #[.slice A n c, .int .i64 k, .int .i64 st] w (RetB (.bool true) w) := by
  by_cases hn : n ≤ 100
  · by_cases hk : 0 ≤ k ∧ k < n - 1
    · exact walkSteps_in A n c K S k st w hn h hk.1 hk.2
    · exact walkSteps_out A n c k st w hn (by omega)
  · exact walkSteps_long A n c k st w (by omega)
end Go.Proofs.Ytokcfkfkpcgliaa
