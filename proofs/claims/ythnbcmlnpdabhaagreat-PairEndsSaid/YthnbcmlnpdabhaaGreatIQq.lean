/-
  Layer 35 (single): goOn.
-/
import Derived.Test.YthnbcmlnpdabhaaGreatIPq
namespace Go.Proofs.YthnbcmlnpdabhaaGreat
open _root_.Go.Proofs.Tryz
open Go.RowKit
set_option maxRecDepth 100000
set_option linter.unusedVariables false
set_option linter.unusedSimpArgs false
def OuTy (t : TypeId) : Prop := t = 97
theorem run_bq3 (A : Option Addr) (n c : Nat) (t : Int) (W : World) : (Instr.build 28 #[(0, .slice A n c), (1, .int .i64 t), (2, .int .i64 1)]).run prog W = .ok (.agg [Value.slice A n c, .int .i64 t, .int .i64 1].toArray) W := by kernel_rfl
theorem OusN.ownTy {lo : Nat} {w : World} {v : Value} {l : List Ou} {p : TypeId → Prop} (h : OusN lo w v l) (hp : p 97) : ∀ i, v.ownBlock = some i → TyS w p lo i := by
 intro i e
 obtain ⟨css, h1, _⟩ := h
 rcases h1.2 with ⟨hv, _⟩ | ⟨g', cap, cur, hv, hB, hg, _⟩
 ·
  rw [hv] at e; cases e
 ·
  rw [hv] at e
  injection e with e
  have e : g' = i := e
  subst e
  exact ⟨hB, _, cur.toList, hg, hp⟩
theorem heldR_len (r : Rs) : (heldR r).sv.length ≤ 100 ∧ (heldR r).se.length ≤ 100 ∧ (heldR r).so.length ≤ 100 := by
 have h1 := (held_sv r).2
 refine ⟨by omega, ?_, ?_⟩ <;> (unfold heldR leftP; simp only [List.length_take]; omega)
end Go.Proofs.YthnbcmlnpdabhaaGreat
