/-
  Layer 33 (walk): which source comes next.
-/
import Derived.Test.YtokcfkfkpcgliaaWalk33
namespace Go.Proofs.Ytokcfkfkpcgliaa
open Go.RowKit

/-- A slice of sources: their kinds, and at which statuses each stops. -/
def Srcs (w : World) (A : Option Addr) (n : Nat) (K : Nat → Int) (S : Nat → Nat → Bool) : Prop :=
  0 < n → ∃ b off, A = some ⟨b, off, none⟩ ∧ b < w.heap.size ∧ ∀ i, i < n → w.cell? ⟨b, off + i * 5, none⟩ = some (.int .i64 (K i)) ∧ ∀ j, j < 4 → w.cell? ⟨b, off + i * 5 + 1 + j, none⟩ = some (.bool (S i j))

theorem Srcs.below {w w' : World} {A : Option Addr} {n : Nat} {K : Nat → Int} {S : Nat → Nat → Bool} (h : Srcs w A n K S) (hB : Below w.heap.size w w') : Srcs w' A n K S := by
  intro hn
  obtain ⟨b, off, hA, hb, hc⟩ := h hn
  refine ⟨b, off, hA, Nat.lt_of_lt_of_le hb hB.size, fun i hi => ⟨(hB.cell hb).trans (hc i hi).1, fun j hj => (hB.cell hb).trans ((hc i hi).2 j hj)⟩⟩

/-- The status by which a source is asked whether it stops. -/
def stat (st : Int) : Nat := if 0 ≤ st ∧ st ≤ 3 then st.toNat else 2
theorem stat_in {st : Int} (h : 0 ≤ st ∧ st ≤ 3) : stat st = st.toNat := if_pos h
theorem stat_out {st : Int} (h : ¬ (0 ≤ st ∧ st ≤ 3)) : stat st = 2 := if_neg h
theorem stat_lt (st : Int) : stat st < 4 := by unfold stat; split <;> omega

theorem next_out (A : Option Addr) (n c : Nat) (k st : Int) (w : World) (hn : n ≤ 1000000) (h : k < 0 ∨ n - 1 ≤ k) :
    Calls Try.prog 14 #[.slice A n c, .int .i64 k, .int .i64 st] w (Ret (.tuple #[.int .i64 0, .bool false]) w) := by
  by_cases h0 : k < 0
  · go_enter Try.func14, Try.ntmps14
    go_wp2
    go_ret2
    exact Ret.mk rfl rfl
  · have h1 : (n : Int) - 1 ≤ k := by omega
    clear h
    go_enter Try.func14, Try.ntmps14
    go_wp2
    go_ret2
    exact Ret.mk rfl rfl

theorem next_stops (A : Option Addr) (n c : Nat) (K : Nat → Int) (S : Nat → Nat → Bool) (k st : Int) (w : World) (hn : n ≤ 1000000) (h : Srcs w A n K S) (h0 : 0 ≤ k) (h1 : k < n - 1) (hs : S k.toNat (stat st) = true) :
    Calls Try.prog 14 #[.slice A n c, .int .i64 k, .int .i64 st] w (Ret (.tuple #[.int .i64 0, .bool false]) w) := by
  obtain ⟨b, off, rfl, hb, hc⟩ := h (by omega)
  obtain ⟨i, rfl⟩ := Int.eq_ofNat_of_zero_le h0
  have hcell := (hc i (by omega)).2 (stat st) (stat_lt st)
  rw [Int.toNat_natCast] at hs
  rw [hs] at hcell
  clear hc hs h
  by_cases hst : 0 ≤ st ∧ st ≤ 3
  · rw [stat_in hst] at hcell
    obtain ⟨s0, s1⟩ := hst
    obtain ⟨j, rfl⟩ := Int.eq_ofNat_of_zero_le s0
    rw [Int.toNat_natCast] at hcell
    go_enter Try.func14, Try.ntmps14
    go_wp2
    go_ret2
    exact Ret.mk rfl rfl
  · rw [stat_out hst] at hcell
    have hcell' : w.cell? { block := b, off := off + i * 5 + 1 + 2 } = some (Value.bool true) := hcell
    by_cases s0 : st < 0
    all_goals
      have hst' : st < 0 ∨ 3 < st := by omega
      go_enter Try.func14, Try.ntmps14
      go_wp2
      go_ret2
      exact Ret.mk rfl rfl

theorem next_goes (A : Option Addr) (n c : Nat) (K : Nat → Int) (S : Nat → Nat → Bool) (k st : Int) (w : World) (hn : n ≤ 1000000) (h : Srcs w A n K S) (h0 : 0 ≤ k) (h1 : k < n - 1) (hs : S k.toNat (stat st) = false) :
    Calls Try.prog 14 #[.slice A n c, .int .i64 k, .int .i64 st] w (Ret (.tuple #[.int .i64 (k + 1), .bool true]) w) := by
  obtain ⟨b, off, rfl, hb, hc⟩ := h (by omega)
  obtain ⟨i, rfl⟩ := Int.eq_ofNat_of_zero_le h0
  have hcell := (hc i (by omega)).2 (stat st) (stat_lt st)
  rw [Int.toNat_natCast] at hs
  rw [hs] at hcell
  clear hc hs h
  by_cases hst : 0 ≤ st ∧ st ≤ 3
  · rw [stat_in hst] at hcell
    obtain ⟨s0, s1⟩ := hst
    obtain ⟨j, rfl⟩ := Int.eq_ofNat_of_zero_le s0
    rw [Int.toNat_natCast] at hcell
    go_enter Try.func14, Try.ntmps14
    go_wp2
    go_ret2
    exact Ret.mk rfl rfl
  · rw [stat_out hst] at hcell
    by_cases s0 : st < 0
    all_goals
      have hst' : st < 0 ∨ 3 < st := by omega
      go_enter Try.func14, Try.ntmps14
      go_wp2
      go_ret2
      exact Ret.mk rfl rfl

theorem stops_any (kd : Int) (s : Nat → Bool) (st : Int) (w : World) :
    Calls Try.prog 15 #[.agg #[.int .i64 kd, .bool (s 0), .bool (s 1), .bool (s 2), .bool (s 3)], .int .i64 st] w (RetB (.bool (s (stat st))) w) := by
  by_cases hst : 0 ≤ st ∧ st ≤ 3
  · obtain ⟨s0, s1⟩ := hst
    have hv : st = 0 ∨ st = 1 ∨ st = 2 ∨ st = 3 := by omega
    rcases hv with rfl | rfl | rfl | rfl
    all_goals
      go_enter Try.func15, Try.ntmps15
      go_wp2
      go_ret
      exact RetB.mk rfl ((Below.refl _ _).alloc (Nat.le_refl _) _)
  · rw [stat_out hst]
    by_cases s0 : st < 0
    all_goals
      have hst' : st < 0 ∨ 3 < st := by omega
      go_enter Try.func15, Try.ntmps15
      go_wp2
      go_ret
      exact RetB.mk rfl ((Below.refl _ _).alloc (Nat.le_refl _) _)
end Go.Proofs.Ytokcfkfkpcgliaa
