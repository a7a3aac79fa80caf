/-
  WalkSteps: for every input the law returns true, and each argument reads afterwards as it read before. No condition.
-/
import Derived.Test.YtokcfkfkpcgliaaOpen
import Derived.Test.YtokcfkfkpcgliaaLaw33
namespace Go.Proofs.Ytokcfkfkpcgliaa
open Go.ChangeShapes Go.WideShapes Go.ChangeAt Go.RowKit
open Go.ChangeMaps (open_string shut_string)
set_option linter.unusedVariables false

theorem seen_srcs {H : Type} {enc : TypeId × Value → H} {w : World} {cs : List Value} (h : Seen enc Try.prog w 22 cs) :
    ∃ A n c K S, cs = [.slice A n c] ∧ Srcs w A n K S := by
  have c29 : Try.prog.cellsOf 29 = 5 := by kernel_rfl
  have c27 : Try.prog.cellsOf 27 = 4 := by kernel_rfl
  have c4 : Try.prog.cellsOf 4 = 1 := by kernel_rfl
  have c3 : Try.prog.cellsOf 3 = 1 := by kernel_rfl
  obtain ⟨A, n, c, rfl, _, _, hn⟩ := h.slice Try.underlying22 (by rw [c29]; omega)
  by_cases hpos : 0 < n
  · obtain ⟨b, off, rfl, hb, hi⟩ := hn hpos
    rw [c29] at hi
    have key : ∀ i, i < n → ∃ x : Int × (Nat → Bool), w.cell? ⟨b, off + i * 5, none⟩ = some (.int .i64 x.1) ∧ ∀ j, j < 4 → w.cell? ⟨b, off + i * 5 + 1 + j, none⟩ = some (.bool (x.2 j)) := by
      intro i hin
      obtain ⟨cs', hl, hc, hs⟩ := hi i hin
      obtain ⟨_, hf⟩ := hs.struct Try.underlying29
      have h0 : Seen enc Try.prog w 3 ((cs'.drop 0).take (Try.prog.cellsOf 3)) := hf 0 _ rfl
      have h1 : Seen enc Try.prog w 27 ((cs'.drop 1).take (Try.prog.cellsOf 27)) := hf 1 _ rfl
      rw [c3, List.drop_zero] at h0
      rw [c27] at h1
      obtain ⟨kd, hk, _⟩ := h0.int Try.underlying3
      obtain ⟨_, ha⟩ := h1.array Try.underlying27
      rw [c4] at ha
      obtain ⟨v0, v1, v2, v3, v4, rfl⟩ := len5 hl
      obtain ⟨b0, e0⟩ := (ha 0 (by omega)).bool Try.underlying4
      obtain ⟨b1, e1⟩ := (ha 1 (by omega)).bool Try.underlying4
      obtain ⟨b2, e2⟩ := (ha 2 (by omega)).bool Try.underlying4
      obtain ⟨b3, e3⟩ := (ha 3 (by omega)).bool Try.underlying4
      simp at hk e0 e1 e2 e3
      subst hk e0 e1 e2 e3
      refine ⟨(kd, fun j => [b0, b1, b2, b3].getD j false), hc 0 (by omega), fun j hj => ?_⟩
      have := hc (1 + j) (by omega)
      rw [← Nat.add_assoc] at this
      rw [this]
      have hjj : j = 0 ∨ j = 1 ∨ j = 2 ∨ j = 3 := by omega
      rcases hjj with rfl | rfl | rfl | rfl <;> rfl
    obtain ⟨f, hf⟩ := Deep.choose_lt key
    exact ⟨_, n, c, fun i => (f i).1, fun i => (f i).2, rfl, fun _ => ⟨b, off, rfl, hb, fun i hin => hf i hin⟩⟩
  · exact ⟨A, n, c, fun _ => 0, fun _ _ => false, rfl, fun h => absurd h hpos⟩

set_option maxRecDepth 100000 in
theorem walkSteps_lifted (os : Os) (started : os.Started) (H : Type) (enc : TypeId × Value → H) :
    ReturnsInHanded {} Try.checked os 3 .any (Rows.walkStepsSpec.pre6 enc Try.prog Try.f3 Rows.walkStepsRow.domain false) (Rows.walkStepsSpec.post enc Try.prog Try.f3 false true false false) := by
  refine returnsInHanded_of_change (C := Try.checked) own started (by kernel_rfl) Try.func3
    (ChangeSpec.witness6 (enc := enc) (C := Try.checked) false ⟨#[], #[.slice none 0 0, .int .i64 0, .int .i64 0], []⟩ 8 (by kernel_rfl) (by kernel_rfl) (by kernel_rfl) (by kernel_rfl)) ?_
  intro W base args ds gs before hval0 hW hcnd _
  have hval : ∀ (j : Nat) t v, Try.f3.params[j]? = some t → args[j]? = some v → Value.okWide Try.prog W .any base t v := hval0
  have hW' := hW
  obtain ⟨p, q, hA0, hV, rfl, hfz, hnd⟩ := hW
  have hA : DataW.TrodAll enc Try.prog W 0 (fun _ => true) true Try.f3.params.toList args.toList ds p := hA0
  rw [Try.params3] at hA hval
  obtain ⟨v0, vs0, d0, ds0, p0, q0, hargs, rfl, rfl, h0, r0⟩ := trodAll_cons hA
  obtain ⟨v1, vs1, d1, ds1, p1, q1, rfl, rfl, rfl, h1, r1⟩ := trodAll_cons r0
  obtain ⟨v2, vs2, d2, ds2, p2, q2, rfl, rfl, rfl, h2, r2⟩ := trodAll_cons r1
  obtain ⟨rfl, rfl, rfl⟩ := trodAll_nil r2
  obtain rfl : args = #[v0, v1, v2] := by cases args; simp_all
  obtain ⟨rfl, rfl⟩ := trodVars_none hV
  obtain ⟨a0, len0, cap0, rfl⟩ := okWide_slice Try.underlying22 (hval 0 22 v0 rfl rfl)
  have k0 := h0
  have lt0 : ∀ x ∈ p0, x.block < W.heap.size := by obtain ⟨m, hm⟩ := k0; exact DataW.trod_lt m _ _ _ hm
  obtain ⟨A, n, c, K, S, hcs, hS⟩ := seen_srcs (Seen.of h0)
  simp [Value.cells] at hcs
  obtain ⟨rfl, rfl, rfl⟩ := hcs
  obtain ⟨a1, rfl, rfl, rfl, w1⟩ := open_int Try.underlying3 (hval 1 3 v1 rfl rfl) h1
  obtain ⟨a2, rfl, rfl, rfl, w2⟩ := open_int Try.underlying3 (hval 2 3 v2 rfl rfl) h2
  clear hA0 hval0
  refine (walkSteps_any _ _ _ K S a1 a2 W hS).mono fun e W' ⟨he, bel⟩ => ?_
  subst he
  exact ⟨_, rfl, _, _, _, [], _, [], hW', trodAll_mk1 (shut_bool Try.underlying4 _), (trodAll_cons_mk (Below.trod laidOut (by kernel_rfl) (of_decide_eq_true (by kernel_rfl)) k0 bel lt0) (trodAll_cons_mk (shut_int Try.underlying3 w1) (trodAll_cons_mk (shut_int Try.underlying3 w2) trodAll_mk0))), rfl, bel.frame _, fun h => by cases h⟩

theorem walkSteps_over : Rows.walkStepsRow.holds Try.pinned (OpenSpec.ofChange Rows.walkStepsSpec) :=
  OpenClaim.holds_of_wide 3 Try.f3 rfl rfl rfl rfl rfl rfl rfl ⟨rfl, rfl, rfl, rfl, rfl⟩ rfl rfl rfl rfl rfl (by kernel_rfl) Try.func3 (by kernel_rfl)
    (of_decide_eq_true (by kernel_rfl)) (by unfold Func.isWrapper; first | (rw [if_pos (by decide +kernel)]; kernel_rfl) | (rw [if_neg (by decide +kernel)]; exact ⟨rfl, rfl⟩))
    (fun os started H enc _ => walkSteps_lifted os started H enc)

theorem walkSteps_proved : Rows.WalkStepsSaid := walkSteps_over
#print axioms walkSteps_proved
end Go.Proofs.Ytokcfkfkpcgliaa
