/-
  Layer 13, the laws' own: Small.
-/
import Derived.Test.YthnbcmlnpdabhaaGreatHBq
import Derived.Test.YthnbcmlnpdabhaaGreatHJq
import Derived.Test.YthnbcmlnpdabhaaGreatHNq
namespace Go.Proofs.YthnbcmlnpdabhaaGreat
open _root_.Go.Proofs.Tryz
open Go.RowKit
set_option maxRecDepth 100000
set_option linter.unusedVariables false
set_option linter.unusedSimpArgs false
theorem back_plain (m : Msg) (hw : ∀ r ∈ m.rrs, r.wf) :
  ((encM m false).2 = 0 ∧ (encM m true).2 = 0 ∧ (encM m true).1.length ≤ (encM m false).1.length ∧ (encM m false).1.length ≤ 65535 ∧ decM (encM m false).1 = .ok m ∧ decM (encM m true).1 = .ok m) ∨
  ((encM m false).2 ≠ 0 ∧ (encM m true).2 = 0 ∧ (encM m true).1.length ≤ 65535 ∧ decM (encM m true).1 = .ok m) ∨
  ((encM m false).2 ≠ 0 ∧ (encM m true).2 ≠ 0 ∧ (encM m true).1 = [] ∧ (encM m false).1 = []) := by
 by_cases hc : checkM m = 0
 ·
  have hle := encS_le m hw hc
  by_cases h1 : 65535 < (encS m true).1.length
  ·
   have h2 : 65535 < (encS m false).1.length := by omega
   right; right
   rw [encM_long true hc h1, encM_long false hc h2]
   exact ⟨by decide, by decide, rfl, rfl⟩
  ·
   have d1 := decM_enc m true hw hc (by omega)
   by_cases h2 : 65535 < (encS m false).1.length
   ·
    right; left
    rw [encM_ok true hc h1, encM_long false hc h2]
    exact ⟨by decide, rfl, by show (encS m true).1.length ≤ 65535; omega, d1⟩
   ·
    have d2 := decM_enc m false hw hc (by omega)
    left
    rw [encM_ok true hc h1, encM_ok false hc h2]
    exact ⟨rfl, rfl, hle, by show (encS m false).1.length ≤ 65535; omega, d2, d1⟩
 ·
  right; right
  rw [encM_bad true hc, encM_bad false hc]
  exact ⟨hc, hc, rfl, rfl⟩
end Go.Proofs.YthnbcmlnpdabhaaGreat
