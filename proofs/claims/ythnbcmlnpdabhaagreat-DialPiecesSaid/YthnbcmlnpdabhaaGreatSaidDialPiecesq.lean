/-
  DialPieces: for every input the law returns true, and each argument reads afterwards as it read before. No condition.
-/
import Derived.Test.YthnbcmlnpdabhaaGreatLaw28bq
namespace Go.Proofs.YthnbcmlnpdabhaaGreat
open _root_.Go.Proofs.Tryz
open Go.ChangeShapes Go.WideShapes Go.ChangeAt Go.RowKit
open Go.ChangeMaps (open_string shut_string)
set_option linter.unusedVariables false
theorem seen_txs {H : Type} {enc : TypeId × Value → H} {w : World} {t : TypeId} {cs : List Value} (ht : prog.underlying t = some (.slice 9)) (h : SeenW enc prog w t cs) : ∃ A c l, cs = [.slice A (l : List (List UInt8)).length c] ∧ NmR w A c l := by
 have c9 : prog.cellsOf 9 = 1 := by kernel_rfl
 have b9 : prog.bytesOf 9 = 16 := by kernel_rfl
 obtain ⟨A, n, c, rfl, hnc, _, hby, hn⟩ := h.slice ht (by rw [c9]; omega)
 rw [b9] at hby
 by_cases hpos : 0 < n
 ·
  obtain ⟨b, off, rfl, hb, hi⟩ := hn hpos
  rw [c9] at hi
  have key : ∀ i, i < n → ∃ t : List UInt8, w.cell? ⟨b, off + i, none⟩ = some (.string (bs t)) ∧ t.length ≤ 140737488355328 := by
   intro i hin
   obtain ⟨cs', hl, hc, hs⟩ := hi i hin
   obtain ⟨x, rfl⟩ := len1 hl
   obtain ⟨s, e, hsl⟩ := hs.string underlying9
   simp at e
   subst e
   refine ⟨s, ?_, hsl⟩
   have := hc 0 (by omega)
   rwa [Nat.mul_one, Nat.add_zero] at this
  obtain ⟨f, hf⟩ := Deep.choose_lt key
  refine ⟨some ⟨b, off, none⟩, c, (List.range n).map f, by simp, fun _ => ⟨b, off, rfl, hb, fun i hin => ?_⟩, by simpa using hnc, by simp; omega, ?_⟩
  ·
   have hin' : i < n := by simpa using hin
   rw [(hf i hin').1]; simp
  ·
   intro l hl
   obtain ⟨i, hir, rfl⟩ := List.mem_map.1 hl
   exact (hf i (List.mem_range.1 hir)).2
 ·
  obtain rfl : n = 0 := by omega
  exact ⟨A, c, [], rfl, fun h => absurd h (by simp), by simp, by simp, by simp⟩
set_option maxRecDepth 100000 in
theorem dialPieces_lifted (os : Os) (started : os.Started) (H : Type) (enc : TypeId × Value → H) :
  ReturnsInHanded {} Tryz.checked os 3 .any (Rows.dialPiecesSpec.pre6 enc prog f3 Rows.dialPiecesRow.domain false) (Rows.dialPiecesSpec.post enc prog f3 false true false false) := by
 refine returnsInHanded_of_change_sized (C := Tryz.checked) own started (by kernel_rfl) func3
  (ChangeSpec.witness6 (enc := enc) (C := Tryz.checked) false ⟨#[], #[.agg #[.int .i64 0, .int .u8 0, .int .u8 0, .int .u8 0, .int .u8 0, .int .u8 0, .int .u8 0, .int .u8 0, .int .u8 0, .int .u8 0, .int .u8 0, .int .u8 0, .int .u8 0, .int .u8 0, .int .u8 0, .int .u8 0, .int .u8 0, .int .i64 0, .int .i64 0, .int .i64 0, .slice none 0 0, .int .i64 0, .int .i64 0], .slice none 0 0], []⟩ 8 (by kernel_rfl) (by kernel_rfl) (by kernel_rfl) (by kernel_rfl)) ?_
 intro W base args ds gs before hval0 hW hcnd hsz0 _
 have hval : ∀ (j : Nat) t v, f3.params[j]? = some t → args[j]? = some v → Value.okWide prog W .any base t v := hval0
 have hW' := hW
 obtain ⟨p, q, hA0, hV, rfl, hfz, hnd⟩ := hW
 have hA : DataW.TrodAll enc prog W 0 (fun _ => true) true f3.params.toList args.toList ds p := hA0
 rw [Tryz.params3] at hA hval
 obtain ⟨v0, vs0, d0, ds0, p0, q0, hargs, rfl, rfl, h0, r0⟩ := trodAll_cons hA
 obtain ⟨v1, vs1, d1, ds1, p1, q1, rfl, rfl, rfl, h1, r1⟩ := trodAll_cons r0
 obtain ⟨rfl, rfl, rfl⟩ := trodAll_nil r1
 obtain rfl : args = #[v0, v1] := by cases args; simp_all
 obtain ⟨rfl, rfl⟩ := trodVars_none hV
 have lg0 : Light prog 30 d0 := light_each (P := prog) (i := 0) hsz0 (by rfl) (by rfl)
 have lg1 : Light prog 25 d1 := light_each (P := prog) (i := 1) hsz0 (by rfl) (by rfl)
 clear hsz0
 have k0 := h0
 have lt0 : ∀ x ∈ p0, x.block < W.heap.size := by obtain ⟨m, hm⟩ := k0; exact DataW.trod_lt m _ _ _ hm
 obtain ⟨cs0, e0, _⟩ := okWide_struct underlying30 (hval 0 30 v0 rfl rfl)
 subst e0
 obtain ⟨y0, Ay0, cy0, hY0⟩ := seen_qy (SeenW.of h0 lg0)
 have ec0 : cs0 = (Value.agg cs0).cells.toList.toArray := by simp [Value.cells]
 generalize (Value.agg cs0).cells.toList = L0 at *
 subst ec0
 have k1 := h1
 have lt1 : ∀ x ∈ p1, x.block < W.heap.size := by obtain ⟨m, hm⟩ := k1; exact DataW.trod_lt m _ _ _ hm
 obtain ⟨b1, n1, c1, e1⟩ := okWide_slice underlying25 (hval 1 25 v1 rfl rfl)
 subst e1
 obtain ⟨A1, q1, l1, hcs1, hT1⟩ := seen_txs underlying25 (SeenW.of h1 lg1)
 simp [Value.cells] at hcs1
 obtain ⟨rfl, rfl, rfl⟩ := hcs1
 clear hA0 hval0
 refine (dialPieces_any L0 y0 Ay0 cy0 _ _ l1 W hY0 hT1).mono fun e W' ⟨he, bel⟩ => ?_
 subst he
 exact ⟨_, rfl, _, _, _, [], _, [], hW', trodAll_mk1 (shut_bool underlying4 _), (trodAll_cons_mk (Below.trod laidOut (by kernel_rfl) (of_decide_eq_true (by kernel_rfl)) k0 bel lt0) (trodAll_cons_mk (Below.trod laidOut (by kernel_rfl) (of_decide_eq_true (by kernel_rfl)) k1 bel lt1) trodAll_mk0)), rfl, bel.frame _, fun h => by cases h⟩
theorem dialPieces_n : Tryz.pinned.checked.prog.funcNamed Rows.dialPiecesRow.func = some 3 := by kernel_rfl
theorem dialPieces_c : joinedFacts Tryz.pinned.checked.prog 3 f3 Rows.dialPiecesSpec Rows.dialPiecesRow = true := by kernel_rfl
theorem dialPieces_i : f3.isInstance Tryz.pinned.checked.prog Rows.dialPiecesRow.origin Rows.dialPiecesRow.targs := of_decide_eq_true (by kernel_rfl)
theorem dialPieces_w : f3.isWrapper Tryz.pinned.checked.prog Rows.dialPiecesRow.wrapper Rows.dialPiecesRow.mainSum := by unfold Func.isWrapper; first | (rw [if_pos (by decide +kernel)]; kernel_rfl) | (rw [if_neg (by decide +kernel)]; exact ⟨rfl, rfl⟩)
theorem dialPieces_over : Rows.dialPiecesRow.holds Tryz.pinned (OpenSpec.ofChange Rows.dialPiecesSpec) :=
 OpenClaim.holds_of_wide 3 f3 rfl rfl rfl rfl rfl rfl rfl ⟨rfl, rfl, rfl, rfl, rfl⟩ rfl rfl rfl rfl rfl dialPieces_n func3 dialPieces_c dialPieces_i dialPieces_w (fun os started H enc _ => dialPieces_lifted os started H enc)
theorem dialPieces_proved : Rows.DialPiecesSaid := dialPieces_over
#print axioms dialPieces_proved
end Go.Proofs.YthnbcmlnpdabhaaGreat
