/-
  PackedBack: for every input the law returns true, and each argument reads afterwards as it read before. No condition.
-/
import Derived.Test.YtlmgdogblbigpaaOpenW
import Derived.Test.YtlmgdogblbigpaaLaw12d
namespace Go.Proofs.Ytlmgdogblbigpaa
open Go.ChangeShapes Go.WideShapes Go.ChangeAt Go.RowKit
open Go.ChangeMaps (open_string shut_string)
set_option linter.unusedVariables false

theorem seen_names {H : Type} {enc : TypeId × Value → H} {w : World} {cs : List Value} (h : SeenW enc Try.prog w 32 cs) : ∃ A c ls, cs = [.slice A (ls : List (List (List UInt8))).length c] ∧ NmsR w A ls := by
  have c9 : Try.prog.cellsOf 24 = 1 := by kernel_rfl
  obtain ⟨A, n, c, rfl, hnc, _, hby, hn⟩ := h.slice Try.underlying32 (by rw [c9]; omega)
  by_cases hpos : 0 < n
  · obtain ⟨b, off, rfl, hb, hi⟩ := hn hpos
    rw [c9] at hi
    have key : ∀ i, i < n → ∃ l : List (List UInt8), ∃ Ai ci, w.cell? ⟨b, off + i, none⟩ = some (.slice Ai l.length ci) ∧ NmR w Ai ci l := by
      intro i hin
      obtain ⟨cs', hl, hc, hs⟩ := hi i hin
      obtain ⟨Ai, ci, l, rfl, hR⟩ := seen_texts Try.underlying24 hs
      refine ⟨l, Ai, ci, ?_, hR⟩
      have := hc 0 (by omega)
      rwa [Nat.mul_one, Nat.add_zero] at this
    obtain ⟨f, hf⟩ := Deep.choose_lt key
    refine ⟨some ⟨b, off, none⟩, c, (List.range n).map f, by simp, fun _ => ⟨b, off, rfl, hb, fun i hin => ?_⟩⟩
    have hin' : i < n := by simpa using hin
    obtain ⟨Ai, ci, h1, h2⟩ := hf i hin'
    refine ⟨Ai, ci, ?_, ?_⟩
    · rw [h1]; simp
    · simpa using h2
  · obtain rfl : n = 0 := by omega
    exact ⟨A, c, [], rfl, fun h => absurd h (by simp)⟩

set_option maxRecDepth 100000 in
theorem packedBack_lifted (os : Os) (started : os.Started) (H : Type) (enc : TypeId × Value → H) :
    ReturnsInHanded {} Try.checked os 5 .any (Rows.packedBackSpec.pre6 enc Try.prog Try.f5 Rows.packedBackRow.domain false) (Rows.packedBackSpec.post enc Try.prog Try.f5 false true false false) := by
  refine returnsInHanded_of_change_sized (C := Try.checked) own started (by kernel_rfl) Try.func5
    (ChangeSpec.witness6 (enc := enc) (C := Try.checked) false ⟨#[], #[.string ⟨#[]⟩, .slice none 0 0], []⟩ 8 (by kernel_rfl) (by kernel_rfl) (by kernel_rfl) (by kernel_rfl)) ?_
  intro W base args ds gs before hval0 hW hcnd hsz0 _
  have hval : ∀ (j : Nat) t v, Try.f5.params[j]? = some t → args[j]? = some v → Value.okWide Try.prog W .any base t v := hval0
  have hW' := hW
  obtain ⟨p, q, hA0, hV, rfl, hfz, hnd⟩ := hW
  have hA : DataW.TrodAll enc Try.prog W 0 (fun _ => true) true Try.f5.params.toList args.toList ds p := hA0
  rw [Try.params5] at hA hval
  obtain ⟨v0, vs0, d0, ds0, p0, q0, hargs, rfl, rfl, h0, r0⟩ := trodAll_cons hA
  obtain ⟨v1, vs1, d1, ds1, p1, q1, rfl, rfl, rfl, h1, r1⟩ := trodAll_cons r0
  obtain ⟨rfl, rfl, rfl⟩ := trodAll_nil r1
  obtain rfl : args = #[v0, v1] := by cases args; simp_all
  obtain ⟨rfl, rfl⟩ := trodVars_none hV
  have lg0 : Light Try.prog 9 d0 := light_each (P := Try.prog) (i := 0) hsz0 (by rfl) (by rfl)
  have lg1 : Light Try.prog 32 d1 := light_each (P := Try.prog) (i := 1) hsz0 (by rfl) (by rfl)
  clear hsz0
  have k0 := h0
  have lt0 : ∀ x ∈ p0, x.block < W.heap.size := by obtain ⟨m, hm⟩ := k0; exact DataW.trod_lt m _ _ _ hm
  obtain ⟨s0, e0, _, _, w0⟩ := open_string Try.underlying9 (hval 0 9 v0 rfl rfl) h0
  subst e0
  obtain ⟨a0, rfl⟩ : ∃ l, s0 = bs l := ⟨_, bs_of s0⟩
  rw [bs_size] at w0
  have k1 := h1
  have lt1 : ∀ x ∈ p1, x.block < W.heap.size := by obtain ⟨m, hm⟩ := k1; exact DataW.trod_lt m _ _ _ hm
  obtain ⟨b1, n1, c1, e1⟩ := okWide_slice Try.underlying32 (hval 1 32 v1 rfl rfl)
  subst e1
  obtain ⟨A1, q1, l1, hcs1, hT1⟩ := seen_names (SeenW.of h1 lg1)
  simp [Value.cells] at hcs1
  obtain ⟨rfl, rfl, rfl⟩ := hcs1
  clear hA0 hval0
  refine (packedBack_any _ _ a0 l1 W hT1).mono fun e W' ⟨he, bel⟩ => ?_
  subst he
  exact ⟨_, rfl, _, _, _, [], _, [], hW', trodAll_mk1 (shut_bool Try.underlying4 _), (trodAll_cons_mk (Below.trod laidOut (by kernel_rfl) (of_decide_eq_true (by kernel_rfl)) k0 bel lt0) (trodAll_cons_mk (Below.trod laidOut (by kernel_rfl) (of_decide_eq_true (by kernel_rfl)) k1 bel lt1) trodAll_mk0)), rfl, bel.frame _, fun h => by cases h⟩

theorem packedBack_over : Rows.packedBackRow.holds Try.pinned (OpenSpec.ofChange Rows.packedBackSpec) :=
  OpenClaim.holds_of_wide 5 Try.f5 rfl rfl rfl rfl rfl rfl rfl ⟨rfl, rfl, rfl, rfl, rfl⟩ rfl rfl rfl rfl rfl (by kernel_rfl) Try.func5 (by kernel_rfl)
    (of_decide_eq_true (by kernel_rfl)) (by unfold Func.isWrapper; first | (rw [if_pos (by decide +kernel)]; kernel_rfl) | (rw [if_neg (by decide +kernel)]; exact ⟨rfl, rfl⟩))
    (fun os started H enc _ => packedBack_lifted os started H enc)

theorem packedBack_proved : Rows.PackedBackSaid := packedBack_over
#print axioms packedBack_proved
end Go.Proofs.Ytlmgdogblbigpaa
