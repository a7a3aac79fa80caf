/-
  Layer 14, the laws' own: MessageAgain.
-/
import Derived.Test.YtlmgdogblbigpaaLaw14c
namespace Go.Proofs.Ytlmgdogblbigpaa
open Go.RowKit
set_option maxRecDepth 100000
set_option linter.unusedVariables false
set_option linter.unusedSimpArgs false

/-- The plain law of MessageAgain. -/
theorem again_plain {s : List UInt8} {m : Msg} (h : decM s = .ok m) (hs : s.length ≤ 3000) (pack : Bool) :
    checkM m = 0 ∧ m.qs.length ≤ 700 ∧ m.rrs.length ≤ 400 ∧
    (((encM m pack).2 = 0 ∧ (encM m pack).1.length ≤ 65535 ∧ decM (encM m pack).1 = .ok m) ∨ ((encM m pack).2 = 3 ∧ (encM m pack).1 = [])) := by
  obtain ⟨h1, h2, h3, h4⟩ := decM_ok h
  refine ⟨h1, by omega, by omega, ?_⟩
  by_cases hl : 65535 < (encS m pack).1.length
  · right; rw [encM_long pack h1 hl]; exact ⟨rfl, rfl⟩
  · left; rw [encM_ok pack h1 hl]; exact ⟨rfl, by show (encS m pack).1.length ≤ 65535; omega, decM_enc m pack h2 h1 (by omega)⟩
def msgLit : Value := .agg #[.int .i64 0, .bool false, .int .i64 0, .bool false, .bool false, .bool false, .bool false, .bool false, .bool false, .int .i64 0, .slice none 0 0, .slice none 0 0, .slice none 0 0, .slice none 0 0]
theorem same_zero {w : World} {ds : List Value} (h : MsgOwn w ds Msg.zero) : Calls Try.prog 42 #[.agg ds.toArray, .agg #[.int .i64 0, .bool false, .int .i64 0, .bool false, .bool false, .bool false, .bool false, .bool false, .bool false, .int .i64 0, .slice none 0 0, .slice none 0 0, .slice none 0 0, .slice none 0 0]] w (RetB (.bool true) w) := by
  have := same_owns h (MsgOwn.zero w)
  rw [decide_eq_true rfl] at this
  exact this
set_option maxHeartbeats 4000000 in
theorem messageAgain_any (s : List UInt8) (pack : Bool) (w : World) (hs : s.length ≤ maxLen) :
    Calls Try.prog 16 #[.string (bs s), .bool pack] w (RetB (.bool true) w) := by
  by_cases hl : 3000 < s.length
  case pos =>
    have hl' : (3000 : Int) < s.length := by omega
    clear hl
    go_enter Try.func16, Try.ntmps16
    go_wp2_with fail
    refine (works14_any _).mono ?_
    rintro _ w0 ⟨rfl, b0⟩
    go_wp2_with fail
    refine (works14_any _).mono ?_
    rintro _ w1 ⟨rfl, b1⟩
    have HB := below_then b0 b0.size b1
    clear b0 b1
    go_wp2_with fail
    go_ret
    exact RetB.mk rfl HB
  have hl' : ¬ (3000 : Int) < s.length := by omega
  have D := Lib.hid (fun w => mdecode_one s w hs)
  have AP := Lib.hid (fun (m : Msg) (h : decM s = .ok m) => again_plain h (by omega) pack)
  clear hl
  generalize decM s = O at *
  go_enter Try.func16, Try.ntmps16
  go_wp2_with fail
  refine (works14_any _).mono ?_
  rintro _ w0 ⟨rfl, HB⟩
  go_wp2_with fail
  refine (D.out _).mono ?_
  rintro _ w3 ⟨ds, m, x, rfl, hM3, b3, hx⟩
  have hdl := hM3.len
  have hd1 := Lib.hid hM3.one
  have HB3 := below_then HB HB.size b3
  clear b3 HB D
  go_wp2_with (refine at_op (.store 52 (.tmp 5) (.tmp 22)) rfl ?_; go_must (refine wpList_stB rfl 52 (.tmp 5) (.tmp 22) rfl w3.heap.size 0 rfl ds rfl (Blk.new' _ _ msgZ _ rfl) (by rw [hdl, msgZ_len]; omega) (by rw [hdl]; exact msgInfo) hd1.out ?_))
  intro w4 B7 g4 _
  rw [List.drop_of_length_le (by rw [msgZ_len]; omega), List.append_nil] at B7
  have k4 : Below w3.heap.size w3 w4 := below_grown ((Below.refl _ _).alloc (Nat.le_refl _) _) g4 (by simp) (Nat.le_refl _)
  have HB4 := below_then HB3 HB3.size k4
  have hM4 := hM3.below k4
  have hgd : w.heap.size ≤ w3.heap.size := HB3.size
  clear g4 k4 hM3 HB3 hd1
  generalize w3.heap.size = gd at *
  rcases hx with ⟨rfl, hO⟩ | ⟨hx, hO, rfl⟩
  case inr =>
    have hx' : (x != 0) = true := by simpa using hx
    have SZ := Lib.hid (same_zero hM4)
    clear hx hO AP hM4
    go_wp2_with (refine at_op (.load 52 (.tmp 5)) rfl ?_; go_must (refine wpList_ldG 52 (.tmp 5) rfl (by go_simp) gd 0 rfl B7 14 (by omega) _ Try.underlying52 rfl msgInfo ds (by rw [List.drop_zero, List.take_of_length_le (by omega)]) ?_))
    refine SZ.out.mono ?_
    rintro _ w5 ⟨rfl, b5⟩
    have HB5 := below_then HB4 HB4.size b5
    clear b5 SZ HB4
    go_wp2_with fail
    go_ret
    exact RetB.mk rfl HB5
  obtain ⟨c0, hq, hr, ho⟩ := AP.out m hO
  clear AP hO
  have EN := Lib.hid (fun w' (h : MsgOwn w' ds m) => by
    obtain ⟨_, _, _, _, _, _, _, _, h1⟩ := h.is
    exact mencode_any ds m pack _ _ _ _ _ _ _ _ w' h1 hq hr)
  have CK := Lib.hid (fun w' (h : MsgOwn w' ds m) => by
    obtain ⟨_, _, _, _, _, _, _, _, h1⟩ := h.is
    exact mcheck_any ds m _ _ _ _ _ _ _ _ w' h1)
  rw [c0] at CK
  clear c0 hq hr
  generalize encM m pack = o1 at *
  obtain ⟨t, f⟩ := o1
  simp only at ho EN
  go_wp2_with (refine at_op (.load 52 (.tmp 5)) rfl ?_; go_must (refine wpList_ldG 52 (.tmp 5) rfl (by go_simp) gd 0 rfl B7 14 (by omega) _ Try.underlying52 rfl msgInfo ds (by rw [List.drop_zero, List.take_of_length_le (by omega)]) ?_))
  refine (EN.out _ hM4).mono ?_
  rintro _ w5 ⟨rfl, b5⟩
  have HB5 := below_then HB4 HB4.size b5
  have B5 := B7.below b5 B7.lt
  have hM5 := hM4.below b5
  clear b5 HB4 B7 hM4 EN
  go_wp2_with (refine at_op (.load 52 (.tmp 5)) rfl ?_; go_must (refine wpList_ldG 52 (.tmp 5) rfl (by go_simp) gd 0 rfl B5 14 (by omega) _ Try.underlying52 rfl msgInfo ds (by rw [List.drop_zero, List.take_of_length_le (by omega)]) ?_))
  refine (CK.out _ hM5).mono ?_
  rintro _ w6 ⟨rfl, b6⟩
  have HB := below_then HB5 HB5.size b6
  have B0 := B5.below b6 B5.lt
  have hM6 := hM5.below b6
  clear b6 HB5 B5 hM5 CK
  rcases ho with ⟨rfl, hlt, d⟩ | ⟨rfl, rfl⟩
  case inr =>
    clear hM6
    go_wp2_with fail
    go_ret
    exact RetB.mk rfl HB
  have D := Lib.hid (fun w => mdecode_good d w (by simp only [maxLen]; omega))
  clear d hlt
  go_wp2_with fail
  refine (D.out _).mono ?_
  rintro _ w3 ⟨dx, rfl, hM3, b3⟩
  have hxl := hM3.len
  have hd1 := Lib.hid hM3.one
  have HB3 := below_then HB HB.size b3
  have B3 := B0.below b3 B0.lt
  have hM7 := hM6.below b3
  clear b3 HB B0 hM6 D
  go_wp2_with (refine at_op (.store 52 (.tmp 9) (.tmp 53)) rfl ?_; go_must (refine wpList_stB rfl 52 (.tmp 9) (.tmp 53) rfl w3.heap.size 0 rfl dx rfl (Blk.new' _ _ msgZ _ rfl) (by rw [hxl, msgZ_len]; omega) (by rw [hxl]; exact msgInfo) hd1.out ?_))
  intro w4 B7 g4 _
  rw [List.drop_of_length_le (by rw [msgZ_len]; omega), List.append_nil] at B7
  have k4 : Below w3.heap.size w3 w4 := below_grown ((Below.refl _ _).alloc (Nat.le_refl _) _) g4 (by simp) (Nat.le_refl _)
  have HB4 := below_then HB3 HB3.size k4
  have B4 := B3.below k4 B3.lt
  have hM4 := hM3.below k4
  have hM8 := hM7.below k4
  have SA := Lib.hid (same_owns hM4 hM8)
  rw [decide_eq_true rfl] at SA
  have hgd : gd < w3.heap.size := B3.lt
  clear g4 k4 hM3 B3 HB3 hd1 hM4 hM8 hM7
  generalize w3.heap.size = gx at *
  go_wp2_with (first
    | (refine at_op (.load 52 (.tmp 9)) rfl ?_; go_must (refine wpList_ldG 52 (.tmp 9) rfl (by go_simp) gx 0 rfl B7 14 (by omega) _ Try.underlying52 rfl msgInfo dx (by rw [List.drop_zero, List.take_of_length_le (by omega)]) ?_))
    | (refine at_op (.load 52 (.tmp 5)) rfl ?_; go_must (refine wpList_ldG 52 (.tmp 5) rfl (by go_simp) gd 0 rfl B4 14 (by omega) _ Try.underlying52 rfl msgInfo ds (by rw [List.drop_zero, List.take_of_length_le (by omega)]) ?_)))
  refine SA.out.mono ?_
  rintro _ w5 ⟨rfl, b5⟩
  have HB5 := below_then HB4 HB4.size b5
  clear SA B7 B4 b5 HB4
  go_wp2_with fail
  go_ret
  exact RetB.mk rfl HB5
end Go.Proofs.Ytlmgdogblbigpaa
