/-
  Layer 13, the laws' own: Small.
-/
import Derived.Test.YthnbcmlnpdabhaaGreatHBq
import Derived.Test.YthnbcmlnpdabhaaGreatHJq
import Derived.Test.YthnbcmlnpdabhaaGreatHNq
namespace Go.Proofs.YthnbcmlnpdabhaaGreat
open _root_.Go.Proofs.Tryz
open Go.RowKit
set_option maxRecDepth 100000
set_option linter.unusedVariables false
set_option linter.unusedSimpArgs false
theorem JH (m : oh) (hw : ∀ r ∈ m.y7, r.wf) :
  ((oT m false).2 = 0 /\ (oT m true).2 = 0 /\ (oT m true).1.length <= (oT m false).1.length /\ (oT m false).1.length <= 65535 /\ qR (oT m false).1 = .ok m /\ qR (oT m true).1 = .ok m) \/
  ((oT m false).2 ≠ 0 /\ (oT m true).2 = 0 /\ (oT m true).1.length <= 65535 /\ qR (oT m true).1 = .ok m) \/
  ((oT m false).2 ≠ 0 /\ (oT m true).2 ≠ 0 /\ (oT m true).1 = [] /\ (oT m false).1 = []) := by
 by_cases hc : pR m = 0
 ·
  have hle := SG m hw hc;by_cases h1 : 65535 < (vA m true).1.length
  ·have h2 : 65535 < (vA m false).1.length := ak;right; right;rw [wG true hc h1, wG false hc h2];exact ⟨aj, aj, rfl, rfl⟩
  ·
   have d1 := Hx m true hw hc ak;by_cases h2 : 65535 < (vA m false).1.length
   ·right; left;rw [zt true hc h1, wG false hc h2];exact ⟨aj, rfl, by show (vA m true).1.length <= 65535; omega, d1⟩
   ·have d2 := Hx m false hw hc ak;left;rw [zt true hc h1, zt false hc h2];exact ⟨rfl, rfl, hle, by show (vA m false).1.length <= 65535; omega, d2, d1⟩
 ·right; right;rw [AF true hc, AF false hc];exact ⟨hc, hc, rfl, rfl⟩
end Go.Proofs.YthnbcmlnpdabhaaGreat
