/-
  Layer 11 (head): the reference reads a head.
-/
import Derived.Test.YtokcfkfkpcgliaaHead
namespace Go.Proofs.Ytokcfkfkpcgliaa
open Go.RowKit
set_option maxRecDepth 100000

theorem refGet_short (l : List UInt8) (w : World) (hl : l.length < 12) : Calls Try.prog 34 #[.string (bs l)] w (RetB (.tuple #[Hd.zero.agg, cnts 0 0 0 0, .int .i64 1]) w) := by
  have hl' : (l.length : Int) < 12 := by omega
  go_enter Try.func34, Try.ntmps34
  go_wp2_with fail
  go_region
  go_wp2_with fail
  refine bodyPost_ret (v := .tuple #[Hd.zero.agg, cnts 0 0 0 0, .int .i64 1]) (by simp [results, Try.results34, go_sem, Hd.agg, Hd.zero, cnts]) rfl (RetB.mk rfl (by go_grown))

theorem at2_slice (l : List UInt8) (k j : Nat) (h : j = k + 2) : numB ((l.take j).drop k) = at2 l k := by
  subst h; rw [at2, List.drop_take]; congr 2; omega

theorem bitvI (n k : Nat) : ((n : Int) / (k : Int) % 2 == 1) = bitv n k := by
  unfold bitv
  rw [Bool.eq_iff_iff]
  simp only [beq_iff_eq]
  constructor <;> intro h <;> omega

set_option maxHeartbeats 2000000 in
theorem refGet_long (l : List UInt8) (w : World) (hl : 12 ≤ l.length) :
    Calls Try.prog 34 #[.string (bs l)] w (RetB (.tuple #[(hdOf (at2 l 0) (at2 l 2)).agg, cnts (at2 l 4) (at2 l 6) (at2 l 8) (at2 l 10), .int .i64 0]) w) := by
  have hl' : (12 : Int) ≤ l.length := by omega
  have hl2 : ¬ (l.length : Int) < 12 := by omega
  go_enter Try.func34, Try.ntmps34
  go_wp2_with fail
  refine (refNum_any _ _ (by simp; omega)).mono ?_
  rintro e w' ⟨rfl, rfl⟩
  rw [at2_slice l 2 4 rfl]
  go_wp2_with fail
  refine (refNum_any _ _ (by simp; omega)).mono ?_
  rintro e w' ⟨rfl, rfl⟩
  rw [show numB (List.take 2 l) = at2 l 0 from rfl]
  have hlt2 := at2_lt l 2
  generalize at2 l 0 = n0 at *
  generalize at2 l 2 = n2 at *
  have g32768 : ((n2 : Int) / 32768 % 2 == 1) = bitv n2 32768 := bitvI n2 32768
  have g1024 : ((n2 : Int) / 1024 % 2 == 1) = bitv n2 1024 := bitvI n2 1024
  have g512 : ((n2 : Int) / 512 % 2 == 1) = bitv n2 512 := bitvI n2 512
  have g256 : ((n2 : Int) / 256 % 2 == 1) = bitv n2 256 := bitvI n2 256
  have g128 : ((n2 : Int) / 128 % 2 == 1) = bitv n2 128 := bitvI n2 128
  have g32 : ((n2 : Int) / 32 % 2 == 1) = bitv n2 32 := bitvI n2 32
  have g16 : ((n2 : Int) / 16 % 2 == 1) = bitv n2 16 := bitvI n2 16
  go_wp2_with fail
  refine wp_loop_rounds 5 ?_
  rw [rounds_succ]
  go_wp2_with fail
  refine (refNum_any _ _ (by simp; omega)).mono ?_
  rintro e w' ⟨rfl, rfl⟩
  rw [at2_slice l 4 6 rfl]
  go_wp2_with fail
  rw [rounds_succ]
  go_wp2_with fail
  refine (refNum_any _ _ (by simp; omega)).mono ?_
  rintro e w' ⟨rfl, rfl⟩
  rw [at2_slice l 6 8 rfl]
  go_wp2_with fail
  rw [rounds_succ]
  go_wp2_with fail
  refine (refNum_any _ _ (by simp; omega)).mono ?_
  rintro e w' ⟨rfl, rfl⟩
  rw [at2_slice l 8 10 rfl]
  go_wp2_with fail
  rw [rounds_succ]
  go_wp2_with fail
  refine (refNum_any _ _ (by simp; omega)).mono ?_
  rintro e w' ⟨rfl, rfl⟩
  rw [at2_slice l 10 12 rfl]
  go_wp2_with fail
  rw [rounds_succ]
  go_wp2_with fail
  go_region
  go_wp2_with fail
  refine bodyPost_ret (v := .tuple #[(hdOf n0 n2).agg, cnts (at2 l 4) (at2 l 6) (at2 l 8) (at2 l 10), .int .i64 0]) (by simp [results, Try.results34, go_sem, Hd.agg, cnts, hdOf]) rfl (RetB.mk rfl (by go_grown))
end Go.Proofs.Ytokcfkfkpcgliaa
