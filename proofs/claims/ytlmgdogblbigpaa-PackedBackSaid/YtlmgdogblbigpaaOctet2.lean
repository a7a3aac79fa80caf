/-
  Layer 10 (octet): the reference's Put and Num, and the Eye.
-/
import Derived.Test.YtlmgdogblbigpaaOctet
namespace Go.Proofs.Ytlmgdogblbigpaa
open Go.RowKit
set_option maxRecDepth 100000

theorem conv_one (W : World) (g : Nat) (x : Int) (hg : g = W.heap.size) : (convert 94 9 (.slice (some ⟨g, 0, none⟩) 1 1)).run Try.prog (W.alloc (.cells #[.int .u8 x] 5)) = .ok (.string (bs [UInt8.ofNat x.toNat])) (W.alloc (.cells #[.int .u8 x] 5)) := by
  subst hg
  exact run_convert_bytes_arg _ 94 5 Try.underlying94 Try.underlying5 _ 0 1 1 [x] rfl (new_nums W _ _ [x]) 9 Try.underlying9

/-- The octets of the number modulo 2^64 are the number's own, up to eight. -/
theorem putB_mod (m n : Int) (h : m = n % 18446744073709551616) : putB 0 m = putB 0 n ∧ putB 1 m = putB 1 n ∧ putB 2 m = putB 2 n ∧ putB 3 m = putB 3 n ∧ putB 4 m = putB 4 n := by
  have e0 : m % 256 = n % 256 := by omega
  have e1 : m / 256 % 256 = n / 256 % 256 := by omega
  have e2 : m / 256 / 256 % 256 = n / 256 / 256 % 256 := by omega
  have e3 : m / 256 / 256 / 256 % 256 = n / 256 / 256 / 256 % 256 := by omega
  simp [putB, e0, e1, e2, e3]
theorem refPut_0 (width n : Int) (w : World) (h : hw width = 0) : Calls Try.prog 65 #[.int .i64 width, .int .i64 n] w (RetB (.string (bs (putB 0 n))) w) := by
  have hcv := conv_one
  have H := Lib.hid h
  clear h
  go_enter Try.func65, Try.ntmps65
  go_wp2_with fail
  obtain ⟨m, hm⟩ : ∃ m, IntKind.u64.wrap n = m := ⟨_, rfl⟩
  rw [hm]
  rw [IntKind.wrap_u64] at hm
  have hm0 : 0 ≤ m := by omega
  have hm1 : m ≤ 18446744073709551615 := by omega
  have M := Lib.hid hm
  clear hm
  refine wp_loop_rounds 1 ?_
  rw [rounds_succ]
  go_wp2_with fail
  refine (refHeld_any _ _).mono ?_
  rintro e w' ⟨rfl, rfl⟩
  rw [H.out, show ((0 : Nat) : Int) = 0 from rfl]
  go_wp2_with fail
  go_ret
  rw [← (putB_mod m n M.out.symm).1]
  exact RetB.mk (by first | rfl | (simp [putB]; done)) (by go_grown)
theorem refPut_1 (width n : Int) (w : World) (h : hw width = 1) : Calls Try.prog 65 #[.int .i64 width, .int .i64 n] w (RetB (.string (bs (putB 1 n))) w) := by
  have hcv := conv_one
  have H := Lib.hid h
  clear h
  go_enter Try.func65, Try.ntmps65
  go_wp2_with fail
  obtain ⟨m, hm⟩ : ∃ m, IntKind.u64.wrap n = m := ⟨_, rfl⟩
  rw [hm]
  rw [IntKind.wrap_u64] at hm
  have hm0 : 0 ≤ m := by omega
  have hm1 : m ≤ 18446744073709551615 := by omega
  have M := Lib.hid hm
  clear hm
  refine wp_loop_rounds 2 ?_
  rw [rounds_succ]
  go_wp2_with fail
  refine (refHeld_any _ _).mono ?_
  rintro e w' ⟨rfl, rfl⟩
  rw [H.out, show ((1 : Nat) : Int) = 1 from rfl]
  go_wp2_with fail
  rw [rounds_succ]
  go_wp2_with fail
  refine (refHeld_any _ _).mono ?_
  rintro e w' ⟨rfl, rfl⟩
  rw [H.out, show ((1 : Nat) : Int) = 1 from rfl]
  go_wp2_with fail
  go_ret
  rw [← (putB_mod m n M.out.symm).2.1]
  exact RetB.mk (by first | rfl | (simp [putB]; done)) (by go_grown)
theorem refPut_2 (width n : Int) (w : World) (h : hw width = 2) : Calls Try.prog 65 #[.int .i64 width, .int .i64 n] w (RetB (.string (bs (putB 2 n))) w) := by
  have hcv := conv_one
  have H := Lib.hid h
  clear h
  go_enter Try.func65, Try.ntmps65
  go_wp2_with fail
  obtain ⟨m, hm⟩ : ∃ m, IntKind.u64.wrap n = m := ⟨_, rfl⟩
  rw [hm]
  rw [IntKind.wrap_u64] at hm
  have hm0 : 0 ≤ m := by omega
  have hm1 : m ≤ 18446744073709551615 := by omega
  have M := Lib.hid hm
  clear hm
  refine wp_loop_rounds 3 ?_
  rw [rounds_succ]
  go_wp2_with fail
  refine (refHeld_any _ _).mono ?_
  rintro e w' ⟨rfl, rfl⟩
  rw [H.out, show ((2 : Nat) : Int) = 2 from rfl]
  go_wp2_with fail
  rw [rounds_succ]
  go_wp2_with fail
  refine (refHeld_any _ _).mono ?_
  rintro e w' ⟨rfl, rfl⟩
  rw [H.out, show ((2 : Nat) : Int) = 2 from rfl]
  go_wp2_with fail
  rw [rounds_succ]
  go_wp2_with fail
  refine (refHeld_any _ _).mono ?_
  rintro e w' ⟨rfl, rfl⟩
  rw [H.out, show ((2 : Nat) : Int) = 2 from rfl]
  go_wp2_with fail
  go_ret
  rw [← (putB_mod m n M.out.symm).2.2.1]
  exact RetB.mk (by first | rfl | (simp [putB]; done)) (by go_grown)
theorem refPut_3 (width n : Int) (w : World) (h : hw width = 3) : Calls Try.prog 65 #[.int .i64 width, .int .i64 n] w (RetB (.string (bs (putB 3 n))) w) := by
  have hcv := conv_one
  have H := Lib.hid h
  clear h
  go_enter Try.func65, Try.ntmps65
  go_wp2_with fail
  obtain ⟨m, hm⟩ : ∃ m, IntKind.u64.wrap n = m := ⟨_, rfl⟩
  rw [hm]
  rw [IntKind.wrap_u64] at hm
  have hm0 : 0 ≤ m := by omega
  have hm1 : m ≤ 18446744073709551615 := by omega
  have M := Lib.hid hm
  clear hm
  refine wp_loop_rounds 4 ?_
  rw [rounds_succ]
  go_wp2_with fail
  refine (refHeld_any _ _).mono ?_
  rintro e w' ⟨rfl, rfl⟩
  rw [H.out, show ((3 : Nat) : Int) = 3 from rfl]
  go_wp2_with fail
  rw [rounds_succ]
  go_wp2_with fail
  refine (refHeld_any _ _).mono ?_
  rintro e w' ⟨rfl, rfl⟩
  rw [H.out, show ((3 : Nat) : Int) = 3 from rfl]
  go_wp2_with fail
  rw [rounds_succ]
  go_wp2_with fail
  refine (refHeld_any _ _).mono ?_
  rintro e w' ⟨rfl, rfl⟩
  rw [H.out, show ((3 : Nat) : Int) = 3 from rfl]
  go_wp2_with fail
  rw [rounds_succ]
  go_wp2_with fail
  refine (refHeld_any _ _).mono ?_
  rintro e w' ⟨rfl, rfl⟩
  rw [H.out, show ((3 : Nat) : Int) = 3 from rfl]
  go_wp2_with fail
  go_ret
  rw [← (putB_mod m n M.out.symm).2.2.2.1]
  exact RetB.mk (by first | rfl | (simp [putB]; done)) (by go_grown)
theorem refPut_4 (width n : Int) (w : World) (h : hw width = 4) : Calls Try.prog 65 #[.int .i64 width, .int .i64 n] w (RetB (.string (bs (putB 4 n))) w) := by
  have hcv := conv_one
  have H := Lib.hid h
  clear h
  go_enter Try.func65, Try.ntmps65
  go_wp2_with fail
  obtain ⟨m, hm⟩ : ∃ m, IntKind.u64.wrap n = m := ⟨_, rfl⟩
  rw [hm]
  rw [IntKind.wrap_u64] at hm
  have hm0 : 0 ≤ m := by omega
  have hm1 : m ≤ 18446744073709551615 := by omega
  have M := Lib.hid hm
  clear hm
  refine wp_loop_rounds 5 ?_
  rw [rounds_succ]
  go_wp2_with fail
  refine (refHeld_any _ _).mono ?_
  rintro e w' ⟨rfl, rfl⟩
  rw [H.out, show ((4 : Nat) : Int) = 4 from rfl]
  go_wp2_with fail
  rw [rounds_succ]
  go_wp2_with fail
  refine (refHeld_any _ _).mono ?_
  rintro e w' ⟨rfl, rfl⟩
  rw [H.out, show ((4 : Nat) : Int) = 4 from rfl]
  go_wp2_with fail
  rw [rounds_succ]
  go_wp2_with fail
  refine (refHeld_any _ _).mono ?_
  rintro e w' ⟨rfl, rfl⟩
  rw [H.out, show ((4 : Nat) : Int) = 4 from rfl]
  go_wp2_with fail
  rw [rounds_succ]
  go_wp2_with fail
  refine (refHeld_any _ _).mono ?_
  rintro e w' ⟨rfl, rfl⟩
  rw [H.out, show ((4 : Nat) : Int) = 4 from rfl]
  go_wp2_with fail
  rw [rounds_succ]
  go_wp2_with fail
  refine (refHeld_any _ _).mono ?_
  rintro e w' ⟨rfl, rfl⟩
  rw [H.out, show ((4 : Nat) : Int) = 4 from rfl]
  go_wp2_with fail
  go_ret
  rw [← (putB_mod m n M.out.symm).2.2.2.2]
  exact RetB.mk (by first | rfl | (simp [putB]; done)) (by go_grown)
theorem refPut_any (width n : Int) (w : World) : Calls Try.prog 65 #[.int .i64 width, .int .i64 n] w (RetB (.string (bs (putB (hw width) n))) w) := by
  have h : hw width = 0 ∨ hw width = 1 ∨ hw width = 2 ∨ hw width = 3 ∨ hw width = 4 := by have := hw_le width; omega
  rcases h with h | h | h | h | h
  · rw [h]; exact refPut_0 width n w h
  · rw [h]; exact refPut_1 width n w h
  · rw [h]; exact refPut_2 width n w h
  · rw [h]; exact refPut_3 width n w h
  · rw [h]; exact refPut_4 width n w h
end Go.Proofs.Ytlmgdogblbigpaa
