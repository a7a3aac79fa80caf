/-
  StreamBack: for every input the law returns true, and each argument reads afterwards as it read before. No condition.
-/
import Derived.Test.YtokcfkfkpcgliaaOpen
import Derived.Test.YtokcfkfkpcgliaaLaw15d
namespace Go.Proofs.Ytokcfkfkpcgliaa
open Go.ChangeShapes Go.WideShapes Go.ChangeAt Go.RowKit
open Go.ChangeMaps (open_string shut_string)
set_option linter.unusedVariables false

theorem seen_txts {H : Type} {enc : TypeId × Value → H} {w : World} {cs : List Value} (h : Seen enc Try.prog w 38 cs) : ∃ A c l, cs = [.slice A (l : List (List UInt8)).length c] ∧ TxtR w A l := by
  have c9 : Try.prog.cellsOf 9 = 1 := by kernel_rfl
  obtain ⟨A, n, c, rfl, _, _, hn⟩ := h.slice Try.underlying38 (by rw [c9]; omega)
  by_cases hpos : 0 < n
  · obtain ⟨b, off, rfl, hb, hi⟩ := hn hpos
    rw [c9] at hi
    have key : ∀ i, i < n → ∃ t : List UInt8, w.cell? ⟨b, off + i, none⟩ = some (.string (bs t)) := by
      intro i hin
      obtain ⟨cs', hl, hc, hs⟩ := hi i hin
      obtain ⟨x, rfl⟩ := len1 hl
      obtain ⟨s, e, _⟩ := hs.string Try.underlying9
      simp at e
      subst e
      refine ⟨s.data.toList, ?_⟩
      rw [← bs_of]
      have := hc 0 (by omega)
      rwa [Nat.mul_one, Nat.add_zero] at this
    obtain ⟨f, hf⟩ := Deep.choose_lt key
    refine ⟨some ⟨b, off, none⟩, c, (List.range n).map f, by simp, fun _ => ⟨b, off, rfl, hb, fun i hin => ?_⟩⟩
    have hin' : i < n := by simpa using hin
    rw [hf i hin']; simp
  · obtain rfl : n = 0 := by omega
    exact ⟨A, c, [], rfl, fun h => absurd h (by simp)⟩

set_option maxRecDepth 100000 in
theorem streamBack_lifted (os : Os) (started : os.Started) (H : Type) (enc : TypeId × Value → H) :
    ReturnsInHanded {} Try.checked os 8 .any (Rows.streamBackSpec.pre6 enc Try.prog Try.f8 Rows.streamBackRow.domain false) (Rows.streamBackSpec.post enc Try.prog Try.f8 false true false false) := by
  refine returnsInHanded_of_change (C := Try.checked) own started (by kernel_rfl) Try.func8
    (ChangeSpec.witness6 (enc := enc) (C := Try.checked) false ⟨#[], #[.slice none 0 0, .int .i64 0], []⟩ 8 (by kernel_rfl) (by kernel_rfl) (by kernel_rfl) (by kernel_rfl)) ?_
  intro W base args ds gs before hval0 hW hcnd _
  have hval : ∀ (j : Nat) t v, Try.f8.params[j]? = some t → args[j]? = some v → Value.okWide Try.prog W .any base t v := hval0
  have hW' := hW
  obtain ⟨p, q, hA0, hV, rfl, hfz, hnd⟩ := hW
  have hA : DataW.TrodAll enc Try.prog W 0 (fun _ => true) true Try.f8.params.toList args.toList ds p := hA0
  rw [Try.params8] at hA hval
  obtain ⟨v0, vs0, d0, ds0, p0, q0, hargs, rfl, rfl, h0, r0⟩ := trodAll_cons hA
  obtain ⟨v1, vs1, d1, ds1, p1, q1, rfl, rfl, rfl, h1, r1⟩ := trodAll_cons r0
  obtain ⟨rfl, rfl, rfl⟩ := trodAll_nil r1
  obtain rfl : args = #[v0, v1] := by cases args; simp_all
  obtain ⟨rfl, rfl⟩ := trodVars_none hV
  have k0 := h0
  have lt0 : ∀ x ∈ p0, x.block < W.heap.size := by obtain ⟨m, hm⟩ := k0; exact DataW.trod_lt m _ _ _ hm
  obtain ⟨b0, n0, c0, e0⟩ := okWide_slice Try.underlying38 (hval 0 38 v0 rfl rfl)
  subst e0
  obtain ⟨A0, q0, l0, hcs0, hT0⟩ := seen_txts (Seen.of h0)
  simp [Value.cells] at hcs0
  obtain ⟨rfl, rfl, rfl⟩ := hcs0
  have k1 := h1
  have lt1 : ∀ x ∈ p1, x.block < W.heap.size := by obtain ⟨m, hm⟩ := k1; exact DataW.trod_lt m _ _ _ hm
  obtain ⟨a1, e1, _, _, w1⟩ := open_int Try.underlying3 (hval 1 3 v1 rfl rfl) h1
  subst e1
  clear hA0 hval0
  refine (streamBack_any _ _ l0 a1 W hT0).mono fun e W' ⟨he, bel⟩ => ?_
  subst he
  exact ⟨_, rfl, _, _, _, [], _, [], hW', trodAll_mk1 (shut_bool Try.underlying4 _), (trodAll_cons_mk (Below.trod laidOut (by kernel_rfl) (of_decide_eq_true (by kernel_rfl)) k0 bel lt0) (trodAll_cons_mk (Below.trod laidOut (by kernel_rfl) (of_decide_eq_true (by kernel_rfl)) k1 bel lt1) trodAll_mk0)), rfl, bel.frame _, fun h => by cases h⟩

theorem streamBack_over : Rows.streamBackRow.holds Try.pinned (OpenSpec.ofChange Rows.streamBackSpec) :=
  OpenClaim.holds_of_wide 8 Try.f8 rfl rfl rfl rfl rfl rfl rfl ⟨rfl, rfl, rfl, rfl, rfl⟩ rfl rfl rfl rfl rfl (by kernel_rfl) Try.func8 (by kernel_rfl)
    (of_decide_eq_true (by kernel_rfl)) (by unfold Func.isWrapper; first | (rw [if_pos (by decide +kernel)]; kernel_rfl) | (rw [if_neg (by decide +kernel)]; exact ⟨rfl, rfl⟩))
    (fun os started H enc _ => streamBack_lifted os started H enc)

theorem streamBack_proved : Rows.StreamBackSaid := streamBack_over
#print axioms streamBack_proved
end Go.Proofs.Ytokcfkfkpcgliaa
