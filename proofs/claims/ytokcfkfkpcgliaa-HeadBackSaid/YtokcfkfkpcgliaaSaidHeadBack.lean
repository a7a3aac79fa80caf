/-
  HeadBack: for every input the law returns true, and each argument reads afterwards as it read before. No condition.
-/
import Derived.Test.YtokcfkfkpcgliaaOpen
import Derived.Test.YtokcfkfkpcgliaaLaw11
namespace Go.Proofs.Ytokcfkfkpcgliaa
open Go.ChangeShapes Go.WideShapes Go.ChangeAt Go.RowKit
open Go.ChangeMaps (open_string shut_string)
set_option linter.unusedVariables false

theorem seen_head {H : Type} {enc : TypeId × Value → H} {w : World} {cs : List Value} (h : Seen enc Try.prog w 50 cs) : ∃ hd : Hd, cs = hd.vals := by
  have c50 : Try.prog.cellsOf 50 = 10 := by kernel_rfl
  have c4 : Try.prog.cellsOf 4 = 1 := by kernel_rfl
  have c3 : Try.prog.cellsOf 3 = 1 := by kernel_rfl
  obtain ⟨hl, hf⟩ := h.struct Try.underlying50
  rw [c50] at hl
  have h0 : Seen enc Try.prog w 3 ((cs.drop 0).take (Try.prog.cellsOf 3)) := hf 0 _ rfl
  have h1 : Seen enc Try.prog w 4 ((cs.drop 1).take (Try.prog.cellsOf 4)) := hf 1 _ rfl
  have h2 : Seen enc Try.prog w 3 ((cs.drop 2).take (Try.prog.cellsOf 3)) := hf 2 _ rfl
  have h3 : Seen enc Try.prog w 4 ((cs.drop 3).take (Try.prog.cellsOf 4)) := hf 3 _ rfl
  have h4 : Seen enc Try.prog w 4 ((cs.drop 4).take (Try.prog.cellsOf 4)) := hf 4 _ rfl
  have h5 : Seen enc Try.prog w 4 ((cs.drop 5).take (Try.prog.cellsOf 4)) := hf 5 _ rfl
  have h6 : Seen enc Try.prog w 4 ((cs.drop 6).take (Try.prog.cellsOf 4)) := hf 6 _ rfl
  have h7 : Seen enc Try.prog w 4 ((cs.drop 7).take (Try.prog.cellsOf 4)) := hf 7 _ rfl
  have h8 : Seen enc Try.prog w 4 ((cs.drop 8).take (Try.prog.cellsOf 4)) := hf 8 _ rfl
  have h9 : Seen enc Try.prog w 3 ((cs.drop 9).take (Try.prog.cellsOf 3)) := hf 9 _ rfl
  rw [c3] at h0 h2 h9
  rw [c4] at h1 h3 h4 h5 h6 h7 h8
  obtain ⟨x0, x1, x2, x3, x4, x5, x6, x7, x8, x9, rfl⟩ := len10 hl
  obtain ⟨a0, e0, _⟩ := h0.int Try.underlying3
  obtain ⟨a1, e1⟩ := h1.bool Try.underlying4
  obtain ⟨a2, e2, _⟩ := h2.int Try.underlying3
  obtain ⟨a3, e3⟩ := h3.bool Try.underlying4
  obtain ⟨a4, e4⟩ := h4.bool Try.underlying4
  obtain ⟨a5, e5⟩ := h5.bool Try.underlying4
  obtain ⟨a6, e6⟩ := h6.bool Try.underlying4
  obtain ⟨a7, e7⟩ := h7.bool Try.underlying4
  obtain ⟨a8, e8⟩ := h8.bool Try.underlying4
  obtain ⟨a9, e9, _⟩ := h9.int Try.underlying3
  simp at e0 e1 e2 e3 e4 e5 e6 e7 e8 e9
  subst e0 e1 e2 e3 e4 e5 e6 e7 e8 e9
  exact ⟨⟨a0, a1, a2, a3, a4, a5, a6, a7, a8, a9⟩, rfl⟩
theorem seen_cnts {H : Type} {enc : TypeId × Value → H} {w : World} {cs : List Value} (h : Seen enc Try.prog w 51 cs) : ∃ a b c d : Int, cs = [.int .i64 a, .int .i64 b, .int .i64 c, .int .i64 d] := by
  have c51 : Try.prog.cellsOf 51 = 4 := by kernel_rfl
  have c3 : Try.prog.cellsOf 3 = 1 := by kernel_rfl
  obtain ⟨hl, hf⟩ := h.array Try.underlying51
  rw [c51] at hl
  rw [c3] at hf
  obtain ⟨x0, x1, x2, x3, rfl⟩ := len4 hl
  obtain ⟨a0, e0, _⟩ := (hf 0 (by omega)).int Try.underlying3
  obtain ⟨a1, e1, _⟩ := (hf 1 (by omega)).int Try.underlying3
  obtain ⟨a2, e2, _⟩ := (hf 2 (by omega)).int Try.underlying3
  obtain ⟨a3, e3, _⟩ := (hf 3 (by omega)).int Try.underlying3
  simp at e0 e1 e2 e3
  subst e0 e1 e2 e3
  exact ⟨a0, a1, a2, a3, rfl⟩

set_option maxRecDepth 100000 in
theorem headBack_lifted (os : Os) (started : os.Started) (H : Type) (enc : TypeId × Value → H) :
    ReturnsInHanded {} Try.checked os 7 .any (Rows.headBackSpec.pre6 enc Try.prog Try.f7 Rows.headBackRow.domain false) (Rows.headBackSpec.post enc Try.prog Try.f7 false true false false) := by
  refine returnsInHanded_of_change (C := Try.checked) own started (by kernel_rfl) Try.func7
    (ChangeSpec.witness6 (enc := enc) (C := Try.checked) false ⟨#[], #[.agg #[.int .i64 0, .bool false, .int .i64 0, .bool false, .bool false, .bool false, .bool false, .bool false, .bool false, .int .i64 0], .agg #[.int .i64 0, .int .i64 0, .int .i64 0, .int .i64 0], .string ⟨#[]⟩], []⟩ 8 (by kernel_rfl) (by kernel_rfl) (by kernel_rfl) (by kernel_rfl)) ?_
  intro W base args ds gs before hval0 hW hcnd _
  have hval : ∀ (j : Nat) t v, Try.f7.params[j]? = some t → args[j]? = some v → Value.okWide Try.prog W .any base t v := hval0
  have hW' := hW
  obtain ⟨p, q, hA0, hV, rfl, hfz, hnd⟩ := hW
  have hA : DataW.TrodAll enc Try.prog W 0 (fun _ => true) true Try.f7.params.toList args.toList ds p := hA0
  rw [Try.params7] at hA hval
  obtain ⟨v0, vs0, d0, ds0, p0, q0, hargs, rfl, rfl, h0, r0⟩ := trodAll_cons hA
  obtain ⟨v1, vs1, d1, ds1, p1, q1, rfl, rfl, rfl, h1, r1⟩ := trodAll_cons r0
  obtain ⟨v2, vs2, d2, ds2, p2, q2, rfl, rfl, rfl, h2, r2⟩ := trodAll_cons r1
  obtain ⟨rfl, rfl, rfl⟩ := trodAll_nil r2
  obtain rfl : args = #[v0, v1, v2] := by cases args; simp_all
  obtain ⟨rfl, rfl⟩ := trodVars_none hV
  have k0 := h0
  have lt0 : ∀ x ∈ p0, x.block < W.heap.size := by obtain ⟨m, hm⟩ := k0; exact DataW.trod_lt m _ _ _ hm
  obtain ⟨cs0, e0, _⟩ := okWide_struct Try.underlying50 (hval 0 50 v0 rfl rfl)
  subst e0
  obtain ⟨hd, hc0⟩ := seen_head (Seen.of h0)
  have ec0 : cs0 = hd.vals.toArray := by rw [← hc0]; simp [Value.cells]
  subst ec0
  have k1 := h1
  have lt1 : ∀ x ∈ p1, x.block < W.heap.size := by obtain ⟨m, hm⟩ := k1; exact DataW.trod_lt m _ _ _ hm
  obtain ⟨cs1, e1, _⟩ := okWide_arr Try.underlying51 (hval 1 51 v1 rfl rfl)
  subst e1
  obtain ⟨n0, n1, n2, n3, hc1⟩ := seen_cnts (Seen.of h1)
  have ec1 : cs1 = #[.int .i64 n0, .int .i64 n1, .int .i64 n2, .int .i64 n3] := by rw [show cs1 = cs1.toList.toArray by simp]; exact congrArg List.toArray hc1
  subst ec1
  have k2 := h2
  have lt2 : ∀ x ∈ p2, x.block < W.heap.size := by obtain ⟨m, hm⟩ := k2; exact DataW.trod_lt m _ _ _ hm
  obtain ⟨s2, e2, _, _, w2⟩ := open_string Try.underlying9 (hval 2 9 v2 rfl rfl) h2
  subst e2
  obtain ⟨a2, rfl⟩ : ∃ l, s2 = bs l := ⟨_, bs_of s2⟩
  rw [bs_size] at w2
  clear hA0 hval0
  refine (headBack_any hd n0 n1 n2 n3 a2 W).mono fun e W' ⟨he, bel⟩ => ?_
  subst he
  exact ⟨_, rfl, _, _, _, [], _, [], hW', trodAll_mk1 (shut_bool Try.underlying4 _), (trodAll_cons_mk (Below.trod laidOut (by kernel_rfl) (of_decide_eq_true (by kernel_rfl)) k0 bel lt0) (trodAll_cons_mk (Below.trod laidOut (by kernel_rfl) (of_decide_eq_true (by kernel_rfl)) k1 bel lt1) (trodAll_cons_mk (Below.trod laidOut (by kernel_rfl) (of_decide_eq_true (by kernel_rfl)) k2 bel lt2) trodAll_mk0))), rfl, bel.frame _, fun h => by cases h⟩

theorem headBack_over : Rows.headBackRow.holds Try.pinned (OpenSpec.ofChange Rows.headBackSpec) :=
  OpenClaim.holds_of_wide 7 Try.f7 rfl rfl rfl rfl rfl rfl rfl ⟨rfl, rfl, rfl, rfl, rfl⟩ rfl rfl rfl rfl rfl (by kernel_rfl) Try.func7 (by kernel_rfl)
    (of_decide_eq_true (by kernel_rfl)) (by unfold Func.isWrapper; first | (rw [if_pos (by decide +kernel)]; kernel_rfl) | (rw [if_neg (by decide +kernel)]; exact ⟨rfl, rfl⟩))
    (fun os started H enc _ => headBack_lifted os started H enc)

theorem headBack_proved : Rows.HeadBackSaid := headBack_over
#print axioms headBack_proved
end Go.Proofs.Ytokcfkfkpcgliaa
