/-
  DialHears: for every input the law returns true, and each argument reads afterwards as it read before. No condition.
-/
import Derived.Test.YthnbcmlnpdabhaaGreatLaw28aq
namespace Go.Proofs.YthnbcmlnpdabhaaGreat
open _root_.Go.Proofs.Tryz
open Go.ChangeShapes Go.WideShapes Go.ChangeAt Go.RowKit
open Go.ChangeMaps (open_string shut_string)
set_option linter.unusedVariables false
set_option maxRecDepth 100000 in
theorem dialHears_lifted (os : Os) (started : os.Started) (H : Type) (enc : TypeId × Value → H) :
  ReturnsInHanded {} Tryz.checked os 4 .any (Rows.dialHearsSpec.pre6 enc prog f4 Rows.dialHearsRow.domain false) (Rows.dialHearsSpec.post enc prog f4 false true false false) := by
 refine returnsInHanded_of_change_sized (C := Tryz.checked) own started (by kernel_rfl) func4
  (ChangeSpec.witness6 (enc := enc) (C := Tryz.checked) false ⟨#[], #[.agg #[.int .i64 0, .int .u8 0, .int .u8 0, .int .u8 0, .int .u8 0, .int .u8 0, .int .u8 0, .int .u8 0, .int .u8 0, .int .u8 0, .int .u8 0, .int .u8 0, .int .u8 0, .int .u8 0, .int .u8 0, .int .u8 0, .int .u8 0, .int .i64 0, .int .i64 0, .int .i64 0, .slice none 0 0, .int .i64 0, .int .i64 0], .slice none 0 0, .bool false], []⟩ 8 (by kernel_rfl) (by kernel_rfl) (by kernel_rfl) (by kernel_rfl)) ?_
 intro W base args ds gs before hval0 hW hcnd hsz0 _
 have hval : ∀ (j : Nat) t v, f4.params[j]? = some t → args[j]? = some v → Value.okWide prog W .any base t v := hval0
 have hW' := hW
 obtain ⟨p, q, hA0, hV, rfl, hfz, hnd⟩ := hW
 have hA : DataW.TrodAll enc prog W 0 (fun _ => true) true f4.params.toList args.toList ds p := hA0
 rw [Tryz.params4] at hA hval
 obtain ⟨v0, vs0, d0, ds0, p0, q0, hargs, rfl, rfl, h0, r0⟩ := trodAll_cons hA
 obtain ⟨v1, vs1, d1, ds1, p1, q1, rfl, rfl, rfl, h1, r1⟩ := trodAll_cons r0
 obtain ⟨v2, vs2, d2, ds2, p2, q2, rfl, rfl, rfl, h2, r2⟩ := trodAll_cons r1
 obtain ⟨rfl, rfl, rfl⟩ := trodAll_nil r2
 obtain rfl : args = #[v0, v1, v2] := by cases args; simp_all
 obtain ⟨rfl, rfl⟩ := trodVars_none hV
 have lg0 : Light prog 30 d0 := light_each (P := prog) (i := 0) hsz0 (by rfl) (by rfl)
 have lg1 : Light prog 56 d1 := light_each (P := prog) (i := 1) hsz0 (by rfl) (by rfl)
 have lg2 : Light prog 4 d2 := light_each (P := prog) (i := 2) hsz0 (by rfl) (by rfl)
 clear hsz0
 have k0 := h0
 have lt0 : ∀ x ∈ p0, x.block < W.heap.size := by obtain ⟨m, hm⟩ := k0; exact DataW.trod_lt m _ _ _ hm
 obtain ⟨cs0, e0, _⟩ := okWide_struct underlying30 (hval 0 30 v0 rfl rfl)
 subst e0
 obtain ⟨y0, Ay0, cy0, hY0⟩ := seen_qy (SeenW.of h0 lg0)
 have ec0 : cs0 = (Value.agg cs0).cells.toList.toArray := by simp [Value.cells]
 generalize (Value.agg cs0).cells.toList = L0 at *
 subst ec0
 have k1 := h1
 have lt1 : ∀ x ∈ p1, x.block < W.heap.size := by obtain ⟨m, hm⟩ := k1; exact DataW.trod_lt m _ _ _ hm
 obtain ⟨b1, n1, c1, e1⟩ := okWide_slice underlying56 (hval 1 56 v1 rfl rfl)
 subst e1
 obtain ⟨A1, q1, l1, hcs1, hT1, hl1⟩ := seen_evs (SeenW.of h1 lg1)
 simp [Value.cells] at hcs1
 obtain ⟨rfl, rfl, rfl⟩ := hcs1
 have k2 := h2
 have lt2 : ∀ x ∈ p2, x.block < W.heap.size := by obtain ⟨m, hm⟩ := k2; exact DataW.trod_lt m _ _ _ hm
 obtain ⟨a2, e2, _, _⟩ := open_bool underlying4 (hval 2 4 v2 rfl rfl) h2
 subst e2
 clear hA0 hval0
 refine (dialHears_any L0 y0 Ay0 cy0 _ _ l1 a2 W hY0 hT1 hl1).mono fun e W' ⟨he, bel⟩ => ?_
 subst he
 exact ⟨_, rfl, _, _, _, [], _, [], hW', trodAll_mk1 (shut_bool underlying4 _), (trodAll_cons_mk (Below.trod laidOut (by kernel_rfl) (of_decide_eq_true (by kernel_rfl)) k0 bel lt0) (trodAll_cons_mk (Below.trod laidOut (by kernel_rfl) (of_decide_eq_true (by kernel_rfl)) k1 bel lt1) (trodAll_cons_mk (Below.trod laidOut (by kernel_rfl) (of_decide_eq_true (by kernel_rfl)) k2 bel lt2) trodAll_mk0))), rfl, bel.frame _, fun h => by cases h⟩
theorem dialHears_n : Tryz.pinned.checked.prog.funcNamed Rows.dialHearsRow.func = some 4 := by kernel_rfl
theorem dialHears_c : joinedFacts Tryz.pinned.checked.prog 4 f4 Rows.dialHearsSpec Rows.dialHearsRow = true := by kernel_rfl
theorem dialHears_i : f4.isInstance Tryz.pinned.checked.prog Rows.dialHearsRow.origin Rows.dialHearsRow.targs := of_decide_eq_true (by kernel_rfl)
theorem dialHears_w : f4.isWrapper Tryz.pinned.checked.prog Rows.dialHearsRow.wrapper Rows.dialHearsRow.mainSum := by unfold Func.isWrapper; first | (rw [if_pos (by decide +kernel)]; kernel_rfl) | (rw [if_neg (by decide +kernel)]; exact ⟨rfl, rfl⟩)
theorem dialHears_over : Rows.dialHearsRow.holds Tryz.pinned (OpenSpec.ofChange Rows.dialHearsSpec) :=
 OpenClaim.holds_of_wide 4 f4 rfl rfl rfl rfl rfl rfl rfl ⟨rfl, rfl, rfl, rfl, rfl⟩ rfl rfl rfl rfl rfl dialHears_n func4 dialHears_c dialHears_i dialHears_w (fun os started H enc _ => dialHears_lifted os started H enc)
theorem dialHears_proved : Rows.DialHearsSaid := dialHears_over
#print axioms dialHears_proved
end Go.Proofs.YthnbcmlnpdabhaaGreat
