/-
  SingleEnds: for every input the law returns true, and each argument reads afterwards as it read before. No condition.
-/
import Derived.Test.YthnbcmlnpdabhaaGreatIRq
namespace Go.Proofs.YthnbcmlnpdabhaaGreat
open _root_.Go.Proofs.Tryz
open Go.ChangeShapes Go.WideShapes Go.ChangeAt Go.RowKit
open Go.ChangeMaps (open_string shut_string)
set_option linter.unusedVariables false
set_option maxRecDepth 100000 in
theorem singleEnds_lifted (os : Os) (started : os.Started) (H : Type) (enc : TypeId × Value → H) :
  ReturnsInHanded {} Tryz.checked os 10 .any (Rows.singleEndsSpec.pre6 enc prog f10 Rows.singleEndsRow.domain false) (Rows.singleEndsSpec.post enc prog f10 false true false false) := by
 refine returnsInHanded_of_change_sized (C := Tryz.checked) own started (by kernel_rfl) func10
  (ChangeSpec.witness6 (enc := enc) (C := Tryz.checked) false ⟨#[], #[.agg #[.slice none 0 0, .slice none 0 0, .slice none 0 0, .int .i64 0, .int .i64 0, .int .i64 0, .bool false, .bool false, .bool false, .bool false, .slice none 0 0, .int .i64 0, .int .i64 0, .slice none 0 0], .slice none 0 0], []⟩ 8 (by kernel_rfl) (by kernel_rfl) (by kernel_rfl) (by kernel_rfl)) ?_
 intro W base args ds gs before hval0 hW hcnd hsz0 _
 have hval : ∀ (j : Nat) t v, f10.params[j]? = some t → args[j]? = some v → Value.okWide prog W .any base t v := hval0
 have hW' := hW
 obtain ⟨p, q, hA0, hV, rfl, hfz, hnd⟩ := hW
 have hA : DataW.TrodAll enc prog W 0 (fun _ => true) true f10.params.toList args.toList ds p := hA0
 rw [Tryz.params10] at hA hval
 obtain ⟨v0, vs0, d0, ds0, p0, q0, hargs, rfl, rfl, h0, r0⟩ := trodAll_cons hA
 obtain ⟨v1, vs1, d1, ds1, p1, q1, rfl, rfl, rfl, h1, r1⟩ := trodAll_cons r0
 obtain ⟨rfl, rfl, rfl⟩ := trodAll_nil r1
 obtain rfl : args = #[v0, v1] := by cases args; simp_all
 obtain ⟨rfl, rfl⟩ := trodVars_none hV
 have lg0 : Light prog 109 d0 := light_each (P := prog) (i := 0) hsz0 (by rfl) (by rfl)
 have lg1 : Light prog 56 d1 := light_each (P := prog) (i := 1) hsz0 (by rfl) (by rfl)
 clear hsz0
 have k0 := h0
 have lt0 : ∀ x ∈ p0, x.block < W.heap.size := by obtain ⟨m, hm⟩ := k0; exact DataW.trod_lt m _ _ _ hm
 obtain ⟨cs0, e0, _⟩ := okWide_struct underlying109 (hval 0 109 v0 rfl rfl)
 subst e0
 obtain ⟨As, rc, rr, Aq, cq, ns, kind, turn, dw, cdw, hcT, hR, hN, hNl, hDw⟩ := seen_task35 (SeenW.of h0 lg0)
 have ec0 : cs0 = (tk35 (.slice As dw.length cdw) (.slice Aq ns.length cq) rc kind turn).toArray := Array.toList_inj.1 (by simpa [Value.cells] using hcT)
 subst ec0
 have k1 := h1
 have lt1 : ∀ x ∈ p1, x.block < W.heap.size := by obtain ⟨m, hm⟩ := k1; exact DataW.trod_lt m _ _ _ hm
 obtain ⟨b1, n1, c1, e1⟩ := okWide_slice underlying56 (hval 1 56 v1 rfl rfl)
 subst e1
 obtain ⟨A1, q1, l1, hcs1, hT1, hl1⟩ := seen_evs (SeenW.of h1 lg1)
 simp [Value.cells] at hcs1
 obtain ⟨rfl, rfl, rfl⟩ := hcs1
 clear hA0 hval0
 refine (singleEnds_any As rc rr Aq cq ns kind turn dw cdw _ _ l1 W hR hN hDw hT1 hl1).mono fun e W' ⟨he, bel⟩ => ?_
 subst he
 exact ⟨_, rfl, _, _, _, [], _, [], hW', trodAll_mk1 (shut_bool underlying4 _), (trodAll_cons_mk (Below.trod laidOut (by kernel_rfl) (of_decide_eq_true (by kernel_rfl)) k0 bel lt0) (trodAll_cons_mk (Below.trod laidOut (by kernel_rfl) (of_decide_eq_true (by kernel_rfl)) k1 bel lt1) trodAll_mk0)), rfl, bel.frame _, fun h => by cases h⟩
theorem singleEnds_n : Tryz.pinned.checked.prog.funcNamed Rows.singleEndsRow.func = some 10 := by kernel_rfl
theorem singleEnds_c : joinedFacts Tryz.pinned.checked.prog 10 f10 Rows.singleEndsSpec Rows.singleEndsRow = true := by kernel_rfl
theorem singleEnds_i : f10.isInstance Tryz.pinned.checked.prog Rows.singleEndsRow.origin Rows.singleEndsRow.targs := of_decide_eq_true (by kernel_rfl)
theorem singleEnds_w : f10.isWrapper Tryz.pinned.checked.prog Rows.singleEndsRow.wrapper Rows.singleEndsRow.mainSum := by unfold Func.isWrapper; first | (rw [if_pos (by decide +kernel)]; kernel_rfl) | (rw [if_neg (by decide +kernel)]; exact ⟨rfl, rfl⟩)
theorem singleEnds_over : Rows.singleEndsRow.holds Tryz.pinned (OpenSpec.ofChange Rows.singleEndsSpec) :=
 OpenClaim.holds_of_wide 10 f10 rfl rfl rfl rfl rfl rfl rfl ⟨rfl, rfl, rfl, rfl, rfl⟩ rfl rfl rfl rfl rfl singleEnds_n func10 singleEnds_c singleEnds_i singleEnds_w (fun os started H enc _ => singleEnds_lifted os started H enc)
theorem singleEnds_proved : Rows.SingleEndsSaid := singleEnds_over
#print axioms singleEnds_proved
end Go.Proofs.YthnbcmlnpdabhaaGreat
