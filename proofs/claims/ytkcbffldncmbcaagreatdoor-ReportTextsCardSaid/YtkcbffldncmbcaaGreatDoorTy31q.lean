/-
  A round of a range over a function whose iterator keeps its state in cells: one call of yield.
-/
import Derived.RangeFuncNested
import Derived.RangeFuncBound
import Derived.RangeFuncCalls
import Derived.RangeFuncLeaves
import Derived.Shelf.Abstract
import Derived.Shelf.RegionOpen
import Derived.WalkKit
import Derived.OwnWalkIn
import Derived.TacticsInMore
import Derived.LoopNIn
import Derived.LoopIn
import Derived.Test.YtkcbffldncmbcaaGreatDoorTy30q
namespace Go.Proofs.YtkcbffldncmbcaaGreatDoor
open _root_.Go.Proofs.Tryz
open Go.RowKit Go.Shelf
set_option maxRecDepth 100000
set_option linter.unusedVariables false
set_option linter.unusedSimpArgs false
def goesOn (l : Nat) (o : Obj) (K : World → Prop) : Exit → Act → World → Prop
 | .normal, _, W => W.heap[l]? = some o ∧ K W
 | _, _, _ => False
theorem yieldC {F : Fence} {n : Nat} {P : Program} {l : Nat} {r : Loop} {args : Array Value} {W : World} {K : World → Prop} {a₁ : Act} (hF : F.fn r.fn) (hl : W.heap[l]? = some (.loop r)) (hst : r.state = .ready) (hpe : r.pending = none) (hs : args.size = r.params.size)
  (hassign : ∀ (Q : Act → World → Prop), Q a₁ W → r.assign.wpIn (F.inRound l) n P (Exit.then Q (fun _ _ _ => False)) { tmps := (r.params.zip args).foldl (fun tmps (t, a) => tmps.setIfInBounds t a) r.tmps, defers := [] } W)
  (hbody : r.body.wpIn (F.inRound l) n P (goesOn l (.loop { r with state := .busy }) K) a₁ (W.putObj l (.loop { r with state := .busy }))) :
  YieldAt F n P l args W (fun e W' => e = .returned (.bool true) ∧ ∃ W3, K W3 ∧ W' = W3.putObj l (.loop r) ∧ l < W3.heap.size) := by
 refine ⟨_, _, _, _, run_yield hl hs, roundIn_of_wpIn hF (hassign _ ⟨_, run_beginRound hl hst, wpIn_mono hbody ?_⟩)⟩
 rintro e a W3 h
 cases e with
 | normal =>
  obtain ⟨h1, h2⟩ := h
  have he := run_endRound (P := P) none h1
  refine ⟨_, _, he, rfl, W3, h2, ?_, (Array.getElem?_eq_some_iff.1 h1).1⟩
  congr 2
  cases r
  simp only at hst hpe
  subst hst hpe
  rfl
 | _ => exact h.elim
end Go.Proofs.YtkcbffldncmbcaaGreatDoor
