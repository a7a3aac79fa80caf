/-
  PairEnds: for every input the law returns true, and each argument reads afterwards as it read before. No condition.
-/
import Derived.Test.YthnbcmlnpdabhaaGreatIWq
namespace Go.Proofs.YthnbcmlnpdabhaaGreat
open _root_.Go.Proofs.Tryz
open Go.ChangeShapes Go.WideShapes Go.ChangeAt Go.RowKit
open Go.ChangeMaps (open_string shut_string)
set_option linter.unusedVariables false
set_option maxRecDepth 100000 in
theorem pairEnds_lifted (os : Os) (started : os.Started) (H : Type) (enc : TypeId × Value → H) :
  ReturnsInHanded {} Tryz.checked os 12 .any (Rows.pairEndsSpec.pre6 enc prog f12 Rows.pairEndsRow.domain false) (Rows.pairEndsSpec.post enc prog f12 false true false false) := by
 refine returnsInHanded_of_change_sized (C := Tryz.checked) own started (by kernel_rfl) func12
  (ChangeSpec.witness6 (enc := enc) (C := Tryz.checked) false ⟨#[], #[.agg #[.slice none 0 0, .slice none 0 0, .slice none 0 0, .int .i64 0, .int .i64 0, .int .i64 0, .bool false, .bool false, .bool false, .bool false, .slice none 0 0, .int .i64 0, .int .i64 0, .slice none 0 0], .slice none 0 0], []⟩ 8 (by kernel_rfl) (by kernel_rfl) (by kernel_rfl) (by kernel_rfl)) ?_
 intro W base args ds gs before hval0 hW hcnd hsz0 _
 have hval : ∀ (j : Nat) t v, f12.params[j]? = some t → args[j]? = some v → Value.okWide prog W .any base t v := hval0
 have hW' := hW
 obtain ⟨p, q, hA0, hV, rfl, hfz, hnd⟩ := hW
 have hA : DataW.TrodAll enc prog W 0 (fun _ => true) true f12.params.toList args.toList ds p := hA0
 rw [Tryz.params12] at hA hval
 obtain ⟨v0, vs0, d0, ds0, p0, q0, hargs, rfl, rfl, h0, r0⟩ := trodAll_cons hA
 obtain ⟨v1, vs1, d1, ds1, p1, q1, rfl, rfl, rfl, h1, r1⟩ := trodAll_cons r0
 obtain ⟨rfl, rfl, rfl⟩ := trodAll_nil r1
 obtain rfl : args = #[v0, v1] := by cases args; simp_all
 obtain ⟨rfl, rfl⟩ := trodVars_none hV
 have lg0 : Light prog 131 d0 := light_each (P := prog) (i := 0) hsz0 (by rfl) (by rfl)
 have lg1 : Light prog 56 d1 := light_each (P := prog) (i := 1) hsz0 (by rfl) (by rfl)
 clear hsz0
 have k0 := h0
 have lt0 : ∀ x ∈ p0, x.block < W.heap.size := by obtain ⟨m, hm⟩ := k0; exact DataW.trod_lt m _ _ _ hm
 obtain ⟨cs0, e0, _⟩ := okWide_struct underlying131 (hval 0 131 v0 rfl rfl)
 subst e0
 obtain ⟨As, rc, rr, Aq, cq, nm, kind, turn, dw, cdw, hcT, hR, hN, hDw⟩ := seen_task32 (SeenW.of h0 lg0)
 have ec0 : cs0 = (tk35 (.slice As dw.length cdw) (.slice Aq nm.length cq) rc kind turn).toArray := Array.toList_inj.1 (by simpa [Value.cells] using hcT)
 subst ec0
 have k1 := h1
 have lt1 : ∀ x ∈ p1, x.block < W.heap.size := by obtain ⟨m, hm⟩ := k1; exact DataW.trod_lt m _ _ _ hm
 obtain ⟨b1, n1, c1, e1⟩ := okWide_slice underlying56 (hval 1 56 v1 rfl rfl)
 subst e1
 obtain ⟨A1, q1, l1, hcs1, hT1, hl1⟩ := seen_evs (SeenW.of h1 lg1)
 simp [Value.cells] at hcs1
 obtain ⟨rfl, rfl, rfl⟩ := hcs1
 clear hA0 hval0
 refine (pairEnds_any As rc rr Aq cq nm kind turn dw cdw _ _ l1 W hR hN hDw hT1 hl1).mono fun e W' ⟨he, bel⟩ => ?_
 subst he
 exact ⟨_, rfl, _, _, _, [], _, [], hW', trodAll_mk1 (shut_bool underlying4 _), (trodAll_cons_mk (Below.trod laidOut (by kernel_rfl) (of_decide_eq_true (by kernel_rfl)) k0 bel lt0) (trodAll_cons_mk (Below.trod laidOut (by kernel_rfl) (of_decide_eq_true (by kernel_rfl)) k1 bel lt1) trodAll_mk0)), rfl, bel.frame _, fun h => by cases h⟩
theorem pairEnds_n : Tryz.pinned.checked.prog.funcNamed Rows.pairEndsRow.func = some 12 := by kernel_rfl
theorem pairEnds_c : joinedFacts Tryz.pinned.checked.prog 12 f12 Rows.pairEndsSpec Rows.pairEndsRow = true := by kernel_rfl
theorem pairEnds_i : f12.isInstance Tryz.pinned.checked.prog Rows.pairEndsRow.origin Rows.pairEndsRow.targs := of_decide_eq_true (by kernel_rfl)
theorem pairEnds_w : f12.isWrapper Tryz.pinned.checked.prog Rows.pairEndsRow.wrapper Rows.pairEndsRow.mainSum := by unfold Func.isWrapper; first | (rw [if_pos (by decide +kernel)]; kernel_rfl) | (rw [if_neg (by decide +kernel)]; exact ⟨rfl, rfl⟩)
theorem pairEnds_over : Rows.pairEndsRow.holds Tryz.pinned (OpenSpec.ofChange Rows.pairEndsSpec) :=
 OpenClaim.holds_of_wide 12 f12 rfl rfl rfl rfl rfl rfl rfl ⟨rfl, rfl, rfl, rfl, rfl⟩ rfl rfl rfl rfl rfl pairEnds_n func12 pairEnds_c pairEnds_i pairEnds_w (fun os started H enc _ => pairEnds_lifted os started H enc)
theorem pairEnds_proved : Rows.PairEndsSaid := pairEnds_over
#print axioms pairEnds_proved
end Go.Proofs.YthnbcmlnpdabhaaGreat
