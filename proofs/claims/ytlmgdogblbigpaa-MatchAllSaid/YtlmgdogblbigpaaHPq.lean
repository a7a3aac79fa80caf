/-
  Layer 13, the laws' own: Small.
-/
import Derived.Test.YtlmgdogblbigpaaHAq
import Derived.Test.YtlmgdogblbigpaaGJq
import Derived.Test.YtlmgdogblbigpaaHBq
import Derived.Test.YtlmgdogblbigpaaHJq
import Derived.Test.YtlmgdogblbigpaaHNq
namespace Go.Proofs.Ytlmgdogblbigpaa
open Go.RowKit
set_option maxRecDepth 100000
set_option linter.unusedVariables false
set_option linter.unusedSimpArgs false

end Go.Proofs.Ytlmgdogblbigpaa
/-
  Layer 14, the laws' own: Small, works; MessageWrites.
-/
namespace Go.Proofs.Ytlmgdogblbigpaa
open Go.RowKit
set_option maxRecDepth 100000
set_option linter.unusedVariables false
set_option linter.unusedSimpArgs false

end Go.Proofs.Ytlmgdogblbigpaa
/-
  Layer 14, the laws' own: works; MessageWrites.
-/
namespace Go.Proofs.Ytlmgdogblbigpaa
open Go.RowKit
set_option maxRecDepth 100000
set_option linter.unusedVariables false
set_option linter.unusedSimpArgs false

end Go.Proofs.Ytlmgdogblbigpaa
/-
  Layer 14, the laws' own: what Decode leaves; MessageBack.
-/
namespace Go.Proofs.Ytlmgdogblbigpaa
open Go.RowKit
set_option maxRecDepth 100000
set_option linter.unusedVariables false
set_option linter.unusedSimpArgs false

theorem RRsR.wf {w : World} {A : Option Addr} {l : List RR} (h : RRsR w A l) : ∀ r ∈ l, r.wf := by
  intro r hr
  obtain ⟨i, hi, rfl⟩ := List.mem_iff_getElem.1 hr
  obtain ⟨b, off, _, _, h3⟩ := h (by omega)
  obtain ⟨cs, _, An, cn, At, ct, Am, cm, _, h5, _⟩ := h3 i hi
  exact h5
theorem MsgIs.wf {w : World} {cs : List Value} {m : Msg} {Aq Aa Au Ae : Option Addr} {cq ca cu ce : Nat} (h : MsgIs w cs m Aq Aa Au Ae cq ca cu ce) : ∀ r ∈ m.rrs, r.wf := by
  intro r hr
  rcases rrs_mem.1 hr with hr | hr | hr
  · exact h.ha.wf r hr
  · exact h.hu.wf r hr
  · exact h.he.wf r hr
end Go.Proofs.Ytlmgdogblbigpaa
