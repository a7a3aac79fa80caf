/-
  Layer 13, the laws' own: works.
-/
import Derived.Test.YtlmgdogblbigpaaGd5
import Derived.Test.YtlmgdogblbigpaaRd10
import Derived.Test.YtlmgdogblbigpaaSm13
import Derived.Test.YtlmgdogblbigpaaRdBack
namespace Go.Proofs.Ytlmgdogblbigpaa
open Go.RowKit
set_option maxRecDepth 100000
set_option linter.unusedVariables false
set_option linter.unusedSimpArgs false

def r13 : RR := { RR.zero with ty := 33, cl := 1, pri := 10, we := 20, po := 5060, tg := [[97], [98]] }
def m13 : List UInt8 := [0, 10, 0, 20, 19, 196, 1, 97, 1, 98, 0]
theorem put_r13 : rputS none 0 r13 = m13 ∧ checkR r13 = 0 := ⟨by kernel_rfl, by kernel_rfl⟩
theorem get_m13 : getR m13 0 11 33 1 = .ok (onlyD r13) := by kernel_rfl
theorem run_b13 (W : World) (v : Value) : (Instr.build 86 #[(1, .int .i64 33), (2, .int .i64 1), (7, .int .i64 10), (8, .int .i64 20), (9, .int .i64 5060), (5, .slice (some ⟨W.heap.size, 0, none⟩) 2 2)]).run Try.prog (W.alloc (.cells #[.string ⟨#[97]⟩, .string ⟨#[98]⟩] 9)) = .ok (.agg (rrC nilS (.slice (some ⟨W.heap.size, 0, none⟩) 2 2) nilS r13).toArray) (W.alloc (.cells #[.string ⟨#[97]⟩, .string ⟨#[98]⟩] 9)) := by
  kernel_rfl
theorem nm13 (w : World) : NmR (w.alloc (.cells #[.string ⟨#[97]⟩, .string ⟨#[98]⟩] 9)) (some ⟨w.heap.size, 0, none⟩) 2 [[97], [98]] := by
  have B0 := Blk.new w 9 [.string ⟨#[97]⟩, .string ⟨#[98]⟩]
  refine ⟨fun _ => ⟨w.heap.size, 0, rfl, B0.lt, fun j hj => ?_⟩, by simp, by simp, by
    intro l hl
    simp at hl
    rcases hl with rfl | rfl <;> simp⟩
  match j, hj with
  | 0, _ => exact B0.cell_ 0 rfl
  | 1, _ => exact B0.cell_ 1 rfl
set_option maxHeartbeats 2000000 in
theorem works13_any (w : World) : Calls Try.prog 49 #[] w (RetB (.bool true) w) := by
  have hb0 : Below w.heap.size w (w.alloc (.cells #[.string ⟨#[97]⟩, .string ⟨#[98]⟩] 9)) := (Below.refl _ _).alloc (Nat.le_refl _) _
  have N0 := nm13 w
  have RB := run_b13 w
  have hwf : r13.wf := ⟨rfl, rfl⟩
  have hL : (rrC nilS (.slice (some ⟨w.heap.size, 0, none⟩) 2 2) nilS r13).length = 33 := rrC_len hwf
  have h1 := Lib.hid (rrC_one (vn := nilS) (vt := .slice (some ⟨w.heap.size, 0, none⟩) 2 2) (vm := nilS) (r := r13) rfl rfl rfl)
  have G : Hid (∀ w, Calls Try.prog 52 #[.string (bs m13), .int .i64 0, .int .i64 11, .int .i64 33, .int .i64 1] w (GetR (.ok (onlyD r13)) w)) := Lib.hid (fun w => by
    have := rget_any m13 0 11 33 1 w (by decide) (by decide)
    rw [get_m13] at this
    exact this)
  have RI : Hid (∀ w', Below (w.alloc (.cells #[.string ⟨#[97]⟩, .string ⟨#[98]⟩] 9)).heap.size (w.alloc (.cells #[.string ⟨#[97]⟩, .string ⟨#[98]⟩] 9)) w' → RRis w' (rrC nilS (.slice (some ⟨w.heap.size, 0, none⟩) 2 2) nilS r13) r13) := Lib.hid (fun w' hb => ⟨none, 0, some ⟨w.heap.size, 0, none⟩, 2, none, 0, rfl, hwf, NmR.nil _, N0.below hb, NmR.nil _, by simp [r13, RR.zero]⟩)
  have L22 : (rrC nilS (.slice (some ⟨w.heap.size, 0, none⟩) 2 2) nilS r13)[22]? = some (.slice (some ⟨w.heap.size, 0, none⟩) 2 2) := rrC_22 hwf
  obtain ⟨w0, hw0⟩ : ∃ w0, w0 = w.alloc (.cells #[.string ⟨#[97]⟩, .string ⟨#[98]⟩] 9) := ⟨_, rfl⟩
  rw [← hw0] at hb0 N0 RB RI
  have hs0 : w0.heap.size = w.heap.size + 1 := by rw [hw0]; simp
  have HW := Lib.hid hw0
  clear hw0
  generalize rrC nilS (.slice (some ⟨w.heap.size, 0, none⟩) 2 2) nilS r13 = L at *
  go_enter Try.func49, Try.ntmps49
  go_wp2_with (first
    | (refine at_op (.build 86 #[(1, .const (.int .i64 33)), (2, .const (.int .i64 1)), (7, .const (.int .i64 10)), (8, .const (.int .i64 20)), (9, .const (.int .i64 5060)), (5, .tmp 6)]) rfl ?_; rw [← HW.out]; go_must (refine wpList_bld rfl 86 _ rfl #[(1, .int .i64 33), (2, .int .i64 1), (7, .int .i64 10), (8, .int .i64 20), (9, .int .i64 5060), (5, .slice (some ⟨w.heap.size, 0, none⟩) 2 2)] (by simp [Act.eval]) (RB nilS) ?_))
    | (refine at_op (.store 86 (.tmp 1) (.tmp 7)) rfl ?_; go_must (refine wpList_stB rfl 86 (.tmp 1) (.tmp 7) rfl (w.heap.size + 1) 0 rfl L rfl (Blk.new' _ _ rrZ _ (by omega)) (by rw [rrZ_len]; omega) (by rw [hL]; exact rrInfo) h1.out ?_)))
  intro w3 B3 g3 _
  rw [List.drop_of_length_le (by rw [rrZ_len]; omega), List.append_nil] at B3
  have b3 : Below w0.heap.size w0 w3 := below_grown ((Below.refl _ _).alloc (Nat.le_refl _) _) g3 (by simp) (by omega)
  have P : Hid (Calls Try.prog 51 #[.agg L.toArray, .int .i64 0, .pointer none] w3 (PutO w3.heap.size none m13 0 (rputT none 0 r13) w3)) := Lib.hid (by
    have := rput_any w3.heap.size L r13 0 none none w3 w3 (RI.out w3 b3) (Nat.le_refl _) (Below.refl _ _) (Nat.le_refl _) rfl (fun T' e => by cases e) (by decide) (by decide)
    rw [put_r13.1, put_r13.2] at this
    exact this)
  clear g3 RI
  go_wp2_with (refine at_op (.load 86 (.tmp 1)) rfl ?_; go_must (refine wpList_ldB rfl 86 (.tmp 1) rfl (w.heap.size + 1) 0 rfl B3 33 (by omega) _ Try.underlying86 rfl rrInfo L (by rw [List.drop_zero, List.take_of_length_le (by omega)]) ?_))
  refine P.out.mono ?_
  rintro _ w4 ⟨rfl, _, k4, _⟩
  have b4 := below_then b3 b3.size k4
  have B4 := B3.below k4 B3.lt
  clear P k4 B3 b3
  go_wp2_with fail
  refine (G.out _).mono ?_
  rintro _ w5 ⟨cs, rfl, hO, k5⟩
  have b5 := below_then b4 b4.size k5
  have B5 := B4.below k5 B4.lt
  have hcl := hO.len
  have hc1 := Lib.hid hO.one
  clear G k5 B4 b4
  go_wp2_with (refine at_op (.store 86 (.tmp 4) (.tmp 18)) rfl ?_; go_must (refine wpList_stB rfl 86 (.tmp 4) (.tmp 18) rfl w5.heap.size 0 rfl cs rfl (Blk.new' _ _ rrZ _ (by simp)) (by rw [rrZ_len]; omega) (by rw [hcl]; exact rrInfo) hc1.out ?_))
  intro w6 B6 g6 _
  rw [List.drop_of_length_le (by rw [rrZ_len]; omega), List.append_nil] at B6
  have k6 : Below w5.heap.size w5 w6 := below_grown ((Below.refl _ _).alloc (Nat.le_refl _) _) g6 (by simp) (Nat.le_refl _)
  have b6 := below_then b5 b5.size k6
  have A6 := B5.below k6 B5.lt
  replace hO := hO.stays (Stays.below k6)
  obtain ⟨vn, vt, vm, hcs, hw', n1, n2, n3, _⟩ := hO
  have L26 : cs[26]? = some (.int .i64 5060) := by rw [hcs]; exact rrC_26 hw'
  have M22 : cs[22]? = some vt := by rw [hcs]; exact rrC_22 hw'
  obtain ⟨At, ct, rfl, nt⟩ := n2.form
  have nt' : NmR w6 At ct [[97], [98]] := nt
  have X := Lib.hid (exact_any At (some ⟨w.heap.size, 0, none⟩) [[97], [98]] [[97], [98]] ct 2 w6 nt'.1 (N0.below b6).1 (by decide) (by decide))
  have HB : Below w.heap.size w w6 := hb0.trans (b6.mono (by omega))
  have c26 := B6.cell_ 26 L26
  have c22 := B6.cell_ 22 M22
  have a22 := A6.cell_ 22 L22
  clear hcs hw' n1 n2 n3 nt nt' N0 b6 k6 g6 B5 b5
  go_wp2_with fail
  refine X.out.mono ?_
  rintro _ w7 ⟨rfl, k7⟩
  have HB7 := below_then HB HB.size k7
  go_wp2_with fail
  go_ret
  exact RetB.mk rfl HB7
end Go.Proofs.Ytlmgdogblbigpaa
