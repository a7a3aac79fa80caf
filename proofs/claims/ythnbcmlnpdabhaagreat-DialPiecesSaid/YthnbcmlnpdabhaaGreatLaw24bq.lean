/-
  Layer 24, the laws' own: AskBuilds.
-/
import Derived.Test.YthnbcmlnpdabhaaGreatLaw24q
import Derived.Test.YthnbcmlnpdabhaaGreatHPq
namespace Go.Proofs.YthnbcmlnpdabhaaGreat
open _root_.Go.Proofs.Tryz
open Go.RowKit
set_option maxRecDepth 100000
set_option linter.unusedVariables false
set_option linter.unusedSimpArgs false
theorem ask_plain (q : Qn) (id : Int) (edns : Bool) : (encM (askM q id edns) false).2 ≠ 0 ∨ ((encM (askM q id edns) false).2 = 0 ∧ (encM (askM q id edns) false).1.length ≤ 65535 ∧ decM (encM (askM q id edns) false).1 = .ok (askM q id edns)) := by
 have hw : ∀ r ∈ (askM q id edns).rrs, r.wf := by
  intro r hr
  cases edns with
  | false => simp [askM, Msg.rrs] at hr
  | true =>
   have : r = optR := by simpa [askM, Msg.rrs] using hr
   subst this
   exact ⟨rfl, rfl⟩
 rcases back_plain _ hw with ⟨h1, h2, h3, h4, h5, h6⟩ | ⟨h1, _⟩ | ⟨h1, _⟩
 ·
  exact .inr ⟨h1, h4, h5⟩
 ·
  exact .inl h1
 ·
  exact .inl h1
end Go.Proofs.YthnbcmlnpdabhaaGreat
