/-
  Layer 14, the laws' own: MessageReads.
-/
import Derived.Test.YtlmgdogblbigpaaRr4
import Derived.Test.YtlmgdogblbigpaaWk14
namespace Go.Proofs.Ytlmgdogblbigpaa
open Go.RowKit
set_option maxRecDepth 100000
set_option linter.unusedVariables false
set_option linter.unusedSimpArgs false

theorem dec_same_msg {o : Except Int Msg} {m m' : Msg} {x x' : Int} (h : (x = 0 ∧ o = .ok m) ∨ (x ≠ 0 ∧ o = .error x ∧ m = Msg.zero)) (h' : (x' = 0 ∧ o = .ok m') ∨ (x' ≠ 0 ∧ o = .error x' ∧ m' = Msg.zero)) : m = m' ∧ x = x' := by
  rcases h with ⟨rfl, rfl⟩ | ⟨h1, rfl, rfl⟩
  · rcases h' with ⟨rfl, h2⟩ | ⟨_, h2, _⟩
    · injection h2 with h2; exact ⟨h2, rfl⟩
    · cases h2
  · rcases h' with ⟨_, h2⟩ | ⟨_, h2, rfl⟩
    · cases h2
    · injection h2 with h2; exact ⟨rfl, h2⟩
set_option maxHeartbeats 4000000 in
theorem messageReads_any (s : List UInt8) (w : World) (hs : s.length ≤ maxLen) : Calls Try.prog 13 #[.string (bs s)] w (RetB (.bool true) w) := by
  by_cases hl : 3000 < s.length
  case pos =>
    have hl' : (3000 : Int) < s.length := by omega
    clear hl
    go_enter Try.func13, Try.ntmps13
    go_wp2_with fail
    refine (works14_any _).mono ?_
    rintro _ w1 ⟨rfl, b1⟩
    go_wp2_with fail
    go_ret
    exact RetB.mk rfl b1
  have hl' : ¬ (3000 : Int) < s.length := by omega
  have D := Lib.hid (fun w => mdecode_one s w hs)
  have D2 := Lib.hid (fun w => refdecode_one s w)
  clear hl
  generalize decM s = O at *
  go_enter Try.func13, Try.ntmps13
  go_wp2_with fail
  refine (D.out _).mono ?_
  rintro _ w1 ⟨ds, m, x, rfl, hM1, b1, hx⟩
  have hdl := hM1.len
  have hd1 := Lib.hid hM1.one
  have HX := Lib.hid hx
  clear D hx
  go_wp2_with (refine at_op (.store 52 (.tmp 3) (.tmp 14)) rfl ?_; go_must (refine wpList_stB rfl 52 (.tmp 3) (.tmp 14) rfl w1.heap.size 0 rfl ds rfl (Blk.new' _ _ msgZ _ rfl) (by rw [hdl, msgZ_len]; omega) (by rw [hdl]; exact msgInfo) hd1.out ?_))
  intro w2 B3 g2 _
  replace B3 := whole14r B3 (by have := msgZ_len; omega)
  have k2 : Below w1.heap.size w1 w2 := below_grown ((Below.refl _ _).alloc (Nat.le_refl _) _) g2 (by simp) (Nat.le_refl _)
  have HB := below_then b1 b1.size k2
  have hM2 := hM1.below k2
  have hg1 : w.heap.size ≤ w1.heap.size := b1.size
  clear b1 g2 k2 hM1 hd1
  generalize w1.heap.size = g3 at *
  go_wp2_with fail
  refine (D2.out _).mono ?_
  rintro _ w3 ⟨dn, n, z, rfl, hN3, b3, hz⟩
  have hnl := hN3.len
  have hn1 := Lib.hid hN3.one
  have HB3 := below_then HB HB.size b3
  have B33 := B3.below b3 B3.lt
  have hM3 := hM2.below b3
  obtain ⟨rfl, rfl⟩ := dec_same_msg HX.out hz
  clear D2 hz HX b3 HB B3 hM2
  go_wp2_with (refine at_op (.store 52 (.tmp 5) (.tmp 19)) rfl ?_; go_must (refine wpList_stB rfl 52 (.tmp 5) (.tmp 19) rfl w3.heap.size 0 rfl dn rfl (Blk.new' _ _ msgZ _ rfl) (by rw [hnl, msgZ_len]; omega) (by rw [hnl]; exact msgInfo) hn1.out ?_))
  intro w4 B5 g4 _
  replace B5 := whole14r B5 (by have := msgZ_len; omega)
  have k4 : Below w3.heap.size w3 w4 := below_grown ((Below.refl _ _).alloc (Nat.le_refl _) _) g4 (by simp) (Nat.le_refl _)
  have HB4 := below_then HB3 HB3.size k4
  have B34 := B33.below k4 B33.lt
  have hM4 := hM3.below k4
  have hN4 := hN3.below k4
  clear g4 k4 hM3 hN3 HB3 B33 hn1
  generalize w3.heap.size = g5 at *
  go_wp2_with fail
  refine (works14_any _).mono ?_
  rintro _ w5 ⟨rfl, b5⟩
  have HB5 := below_then HB4 HB4.size b5
  have B35 := B34.below b5 B34.lt
  have B55 := B5.below b5 B5.lt
  have SA := Lib.hid (same_owns (hM4.below b5) (hN4.below b5))
  rw [decide_eq_true rfl] at SA
  clear b5 HB4 B34 B5 hM4 hN4
  go_wp2_with (first
    | (refine at_op (.load 52 (.tmp 3)) rfl ?_; go_must (refine wpList_ldG 52 (.tmp 3) rfl (by go_simp) g3 0 rfl B35 14 (by omega) _ Try.underlying52 rfl msgInfo ds (by rw [List.drop_zero, List.take_of_length_le (by omega)]) ?_))
    | (refine at_op (.load 52 (.tmp 5)) rfl ?_; go_must (refine wpList_ldG 52 (.tmp 5) rfl (by go_simp) g5 0 rfl B55 14 (by omega) _ Try.underlying52 rfl msgInfo dn (by rw [List.drop_zero, List.take_of_length_le (by omega)]) ?_)))
  refine SA.out.mono ?_
  rintro _ w6 ⟨rfl, b6⟩
  have HB6 := below_then HB5 HB5.size b6
  clear b6 SA HB5 B35 B55
  go_wp2_with fail
  go_ret
  exact RetB.mk rfl HB6
end Go.Proofs.Ytlmgdogblbigpaa
