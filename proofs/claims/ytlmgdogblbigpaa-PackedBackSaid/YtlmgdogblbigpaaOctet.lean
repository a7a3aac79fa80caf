/-
  Layer 10 (octet) and its reference: numbers as octets.
-/
import Derived.Test.YtlmgdogblbigpaaStr
namespace Go.Proofs.Ytlmgdogblbigpaa
open Go.RowKit
set_option maxRecDepth 100000

/-- A width from 0 to 4. -/
def hw (width : Int) : Nat := if width < 0 then 0 else if 4 < width then 4 else width.toNat
theorem hw_le (width : Int) : hw width ≤ 4 := by unfold hw; split <;> (try split) <;> omega
/-- The octets of a number, the greatest first. -/
def putB : Nat → Int → List UInt8
  | 0, _ => []
  | k + 1, n => putB k (n / 256) ++ [UInt8.ofNat (n % 256).toNat]
theorem putB_length (k : Nat) : ∀ n : Int, (putB k n).length = k := by
  induction k with
  | zero => intro n; rfl
  | succ k ih => intro n; simp [putB, ih]
/-- The number of octets. -/
def numB (l : List UInt8) : Nat := l.foldl (fun n c => 256 * n + c.toNat) 0
theorem numB_snoc (l : List UInt8) (c : UInt8) : numB (l ++ [c]) = 256 * numB l + c.toNat := by simp [numB]
theorem numB_lt (l : List UInt8) : numB l < 256 ^ l.length := by
  have h : ∀ (l : List UInt8) (n k : Nat), n < 256 ^ k → l.foldl (fun n c => 256 * n + c.toNat) n < 256 ^ (k + l.length) := by
    intro l
    induction l with
    | nil => intro n k h; simpa using h
    | cons c l ih =>
      intro n k h
      have hc := c.toNat_lt
      have h1 := ih (256 * n + c.toNat) (k + 1) (by rw [Nat.pow_succ]; omega)
      rw [List.foldl_cons, List.length_cons, show k + (l.length + 1) = k + 1 + l.length by omega]
      exact h1
  simpa [numB] using h l 0 0 (by simp)

theorem held_any (n : Int) (w : World) : Calls Try.prog 105 #[.int .i64 n] w (Ret (.int .i64 (hw n)) w) := by
  go_enter Try.func105, Try.ntmps105
  go_wp2
  all_goals go_ret
  all_goals exact Ret.mk (ret_int (by unfold hw; split <;> (try split) <;> omega)) rfl
theorem refHeld_any (n : Int) (w : World) : Calls Try.prog 106 #[.int .i64 n] w (Ret (.int .i64 (hw n)) w) := by
  go_enter Try.func106, Try.ntmps106
  go_wp2
  all_goals go_ret
  all_goals exact Ret.mk (ret_int (by unfold hw; split <;> (try split) <;> omega)) rfl

/-- A new block of numbers, cell by cell. -/
theorem new_nums (w : World) (t : TypeId) (k : IntKind) (xs : List Int) : ∀ i, i < xs.length → (w.alloc (.cells (xs.map (Value.int k)).toArray t)).cell? ⟨w.heap.size, 0 + i, none⟩ = some (.int k (xs.getD i 0)) := by
  intro i hi
  rw [(Blk.new w t (xs.map (Value.int k))).cell]
  simp [List.getD, List.getElem?_eq_getElem hi]

theorem put_0 (width n : Int) (w : World) (h : hw width = 0) : Calls Try.prog 63 #[.int .i64 width, .int .i64 n] w (RetB (.string (bs (putB 0 n))) w) := by
  have hmk : ∀ w : World, (Instr.makeSlice 94 (.int .i64 0) (.int .i64 0)).run Try.prog w = .ok (.slice (some ⟨w.heap.size, 0, none⟩) 0 0) (w.alloc (.cells #[] 5)) := fun _ => by kernel_rfl
  have hcv : (convert 94 9 (.slice (some ⟨w.heap.size, 0, none⟩) 0 0)).run Try.prog (w.alloc (.cells #[] 5)) = .ok (.string (bs (putB 0 n))) (w.alloc (.cells #[] 5)) :=
    run_convert_bytes_arg _ 94 5 Try.underlying94 Try.underlying5 _ 0 0 0 [] rfl (new_nums w _ _ []) 9 Try.underlying9
  have H := Lib.hid h
  clear h
  go_enter Try.func63, Try.ntmps63
  go_wp2_with fail
  refine (held_any _ _).mono ?_
  rintro e w' ⟨rfl, rfl⟩
  rw [H.out, show ((0 : Nat) : Int) = 0 from rfl]
  go_wp2_with fail
  refine wp_loop_rounds 1 ?_
  rw [rounds_succ]
  go_wp2_with fail
  go_ret
  exact RetB.mk rfl ((Below.refl _ _).alloc (Nat.le_refl _) _)
theorem put_1 (width n : Int) (w : World) (h : hw width = 1) : Calls Try.prog 63 #[.int .i64 width, .int .i64 n] w (RetB (.string (bs (putB 1 n))) w) := by
  have hmk : ∀ w : World, (Instr.makeSlice 94 (.int .i64 1) (.int .i64 1)).run Try.prog w = .ok (.slice (some ⟨w.heap.size, 0, none⟩) 1 1) (w.alloc (.cells #[.int .u8 0] 5)) := fun _ => by kernel_rfl
  have hcv : (convert 94 9 (.slice (some ⟨w.heap.size, 0, none⟩) 1 1)).run Try.prog (w.alloc (.cells #[.int .u8 (n % 256)] 5)) = .ok (.string (bs (putB 1 n))) (w.alloc (.cells #[.int .u8 (n % 256)] 5)) :=
    run_convert_bytes_arg _ 94 5 Try.underlying94 Try.underlying5 _ 0 1 1 [n % 256] rfl (new_nums w _ _ [n % 256]) 9 Try.underlying9
  have H := Lib.hid h
  clear h
  go_enter Try.func63, Try.ntmps63
  go_wp2_with fail
  refine (held_any _ _).mono ?_
  rintro e w' ⟨rfl, rfl⟩
  rw [H.out, show ((1 : Nat) : Int) = 1 from rfl]
  go_wp2_with fail
  refine wp_loop_rounds 2 ?_
  rw [rounds_succ]
  go_wp2_with fail
  rw [rounds_succ]
  go_wp2_with fail
  go_ret
  exact RetB.mk rfl ((Below.refl _ _).alloc (Nat.le_refl _) _)
theorem put_2 (width n : Int) (w : World) (h : hw width = 2) : Calls Try.prog 63 #[.int .i64 width, .int .i64 n] w (RetB (.string (bs (putB 2 n))) w) := by
  have hmk : ∀ w : World, (Instr.makeSlice 94 (.int .i64 2) (.int .i64 2)).run Try.prog w = .ok (.slice (some ⟨w.heap.size, 0, none⟩) 2 2) (w.alloc (.cells #[.int .u8 0, .int .u8 0] 5)) := fun _ => by kernel_rfl
  have hcv : (convert 94 9 (.slice (some ⟨w.heap.size, 0, none⟩) 2 2)).run Try.prog (w.alloc (.cells #[.int .u8 (n / 256 % 256), .int .u8 (n % 256)] 5)) = .ok (.string (bs (putB 2 n))) (w.alloc (.cells #[.int .u8 (n / 256 % 256), .int .u8 (n % 256)] 5)) :=
    run_convert_bytes_arg _ 94 5 Try.underlying94 Try.underlying5 _ 0 2 2 [n / 256 % 256, n % 256] rfl (new_nums w _ _ [n / 256 % 256, n % 256]) 9 Try.underlying9
  have H := Lib.hid h
  clear h
  go_enter Try.func63, Try.ntmps63
  go_wp2_with fail
  refine (held_any _ _).mono ?_
  rintro e w' ⟨rfl, rfl⟩
  rw [H.out, show ((2 : Nat) : Int) = 2 from rfl]
  go_wp2_with fail
  refine wp_loop_rounds 3 ?_
  rw [rounds_succ]
  go_wp2_with fail
  rw [rounds_succ]
  go_wp2_with fail
  rw [rounds_succ]
  go_wp2_with fail
  go_ret
  exact RetB.mk rfl ((Below.refl _ _).alloc (Nat.le_refl _) _)
theorem put_3 (width n : Int) (w : World) (h : hw width = 3) : Calls Try.prog 63 #[.int .i64 width, .int .i64 n] w (RetB (.string (bs (putB 3 n))) w) := by
  have hmk : ∀ w : World, (Instr.makeSlice 94 (.int .i64 3) (.int .i64 3)).run Try.prog w = .ok (.slice (some ⟨w.heap.size, 0, none⟩) 3 3) (w.alloc (.cells #[.int .u8 0, .int .u8 0, .int .u8 0] 5)) := fun _ => by kernel_rfl
  have hcv : (convert 94 9 (.slice (some ⟨w.heap.size, 0, none⟩) 3 3)).run Try.prog (w.alloc (.cells #[.int .u8 (n / 256 / 256 % 256), .int .u8 (n / 256 % 256), .int .u8 (n % 256)] 5)) = .ok (.string (bs (putB 3 n))) (w.alloc (.cells #[.int .u8 (n / 256 / 256 % 256), .int .u8 (n / 256 % 256), .int .u8 (n % 256)] 5)) :=
    run_convert_bytes_arg _ 94 5 Try.underlying94 Try.underlying5 _ 0 3 3 [n / 256 / 256 % 256, n / 256 % 256, n % 256] rfl (new_nums w _ _ [n / 256 / 256 % 256, n / 256 % 256, n % 256]) 9 Try.underlying9
  have H := Lib.hid h
  clear h
  go_enter Try.func63, Try.ntmps63
  go_wp2_with fail
  refine (held_any _ _).mono ?_
  rintro e w' ⟨rfl, rfl⟩
  rw [H.out, show ((3 : Nat) : Int) = 3 from rfl]
  go_wp2_with fail
  refine wp_loop_rounds 4 ?_
  rw [rounds_succ]
  go_wp2_with fail
  rw [rounds_succ]
  go_wp2_with fail
  rw [rounds_succ]
  go_wp2_with fail
  rw [rounds_succ]
  go_wp2_with fail
  go_ret
  exact RetB.mk rfl ((Below.refl _ _).alloc (Nat.le_refl _) _)
theorem put_4 (width n : Int) (w : World) (h : hw width = 4) : Calls Try.prog 63 #[.int .i64 width, .int .i64 n] w (RetB (.string (bs (putB 4 n))) w) := by
  have hmk : ∀ w : World, (Instr.makeSlice 94 (.int .i64 4) (.int .i64 4)).run Try.prog w = .ok (.slice (some ⟨w.heap.size, 0, none⟩) 4 4) (w.alloc (.cells #[.int .u8 0, .int .u8 0, .int .u8 0, .int .u8 0] 5)) := fun _ => by kernel_rfl
  have hcv : (convert 94 9 (.slice (some ⟨w.heap.size, 0, none⟩) 4 4)).run Try.prog (w.alloc (.cells #[.int .u8 (n / 256 / 256 / 256 % 256), .int .u8 (n / 256 / 256 % 256), .int .u8 (n / 256 % 256), .int .u8 (n % 256)] 5)) = .ok (.string (bs (putB 4 n))) (w.alloc (.cells #[.int .u8 (n / 256 / 256 / 256 % 256), .int .u8 (n / 256 / 256 % 256), .int .u8 (n / 256 % 256), .int .u8 (n % 256)] 5)) :=
    run_convert_bytes_arg _ 94 5 Try.underlying94 Try.underlying5 _ 0 4 4 [n / 256 / 256 / 256 % 256, n / 256 / 256 % 256, n / 256 % 256, n % 256] rfl (new_nums w _ _ [n / 256 / 256 / 256 % 256, n / 256 / 256 % 256, n / 256 % 256, n % 256]) 9 Try.underlying9
  have H := Lib.hid h
  clear h
  go_enter Try.func63, Try.ntmps63
  go_wp2_with fail
  refine (held_any _ _).mono ?_
  rintro e w' ⟨rfl, rfl⟩
  rw [H.out, show ((4 : Nat) : Int) = 4 from rfl]
  go_wp2_with fail
  refine wp_loop_rounds 5 ?_
  rw [rounds_succ]
  go_wp2_with fail
  rw [rounds_succ]
  go_wp2_with fail
  rw [rounds_succ]
  go_wp2_with fail
  rw [rounds_succ]
  go_wp2_with fail
  rw [rounds_succ]
  go_wp2_with fail
  go_ret
  exact RetB.mk rfl ((Below.refl _ _).alloc (Nat.le_refl _) _)
theorem put_any (width n : Int) (w : World) : Calls Try.prog 63 #[.int .i64 width, .int .i64 n] w (RetB (.string (bs (putB (hw width) n))) w) := by
  have h : hw width = 0 ∨ hw width = 1 ∨ hw width = 2 ∨ hw width = 3 ∨ hw width = 4 := by have := hw_le width; omega
  rcases h with h | h | h | h | h
  · rw [h]; exact put_0 width n w h
  · rw [h]; exact put_1 width n w h
  · rw [h]; exact put_2 width n w h
  · rw [h]; exact put_3 width n w h
  · rw [h]; exact put_4 width n w h
end Go.Proofs.Ytlmgdogblbigpaa
