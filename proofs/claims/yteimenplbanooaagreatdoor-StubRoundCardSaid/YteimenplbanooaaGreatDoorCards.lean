/-
  DERIVED. GIVEN WITH THE SEED: THE CARDS: each row of YteimenplbanooaaGreatDoorRows.lean that lists a variable, with what it lists TIED to the program's text (the seventh form; the later family's looks); each row that meets fmt, with fmt's text TOLD by the authors' own Lean function (tested against real Go, not proved from fmt's source: count such statements apart). THE CARD IS WHAT COUNTS. Prove the row's statement (the work); the ties are given (YteimenplbanooaaGreatDoorTie.lean); close each card by the builder's one call (the guide's Derived/Test/ToyasCard.lean, 'card_holds'). Laid BY PROGRAM, IN A SANDBOX (cutbox-door.mjs). By AI agents, Wed Nov 11 2026. No macro, syntax, notation, axiom, sorry.
-/
import Derived.Test.YteimenplbanooaaGreatDoorRows
import GoSem.ClaimSeven
namespace Go.Proofs.YteimenplbanooaaGreatDoor
namespace Rows

/-- THE TIED CARD OF 'wayfinderlaw43.StubRound'. -/
def stubRoundCard : Claim7 := { stood := { row := stubRoundRow, standIns := [], harness := (true, "39fe92f4ce70f30466f2383477980e1e3a9a1af633f9a3e34b406de99e8f89fd"), looks := true }, kinds := [], alts := [], laidByText := true, laidKinds := [.data, .data, .data, .data], laidTests := true, laidLooks := .later }
def StubRoundCardSaid : Prop := Claim7.holds Tryz.pinned (.plain (OpenSpec.ofChange stubRoundSpec)) stubRoundCard

/-- THE TIED CARD OF 'wayfinderlaw43.StubAtOnce'. -/
def stubAtOnceCard : Claim7 := { stood := { row := stubAtOnceRow, standIns := [], harness := (true, "39fe92f4ce70f30466f2383477980e1e3a9a1af633f9a3e34b406de99e8f89fd"), looks := true }, kinds := [], alts := [], laidByText := true, laidKinds := [.data, .data, .data, .data], laidTests := true, laidLooks := .later }
def StubAtOnceCardSaid : Prop := Claim7.holds Tryz.pinned (.plain (OpenSpec.ofChange stubAtOnceSpec)) stubAtOnceCard

/-- THE SECOND FORM's CARD OF 'wayfinderlaw43.StubRound'. -/
def stubRoundUptoCard : Claim7 := { stood := { row := stubRoundUptoRow, standIns := [], harness := (true, "39fe92f4ce70f30466f2383477980e1e3a9a1af633f9a3e34b406de99e8f89fd"), looks := true }, kinds := [], alts := [], laidByText := true, laidKinds := [.data, .data, .data, .data], laidTests := true, laidLooks := .later }
def StubRoundUptoCardSaid : Prop := Claim7.holds Tryz.pinned (.plain (OpenSpec.upto stubRoundSpec)) stubRoundUptoCard

/-- THE SECOND FORM's CARD OF 'wayfinderlaw43.StubAtOnce'. -/
def stubAtOnceUptoCard : Claim7 := { stood := { row := stubAtOnceUptoRow, standIns := [], harness := (true, "39fe92f4ce70f30466f2383477980e1e3a9a1af633f9a3e34b406de99e8f89fd"), looks := true }, kinds := [], alts := [], laidByText := true, laidKinds := [.data, .data, .data, .data], laidTests := true, laidLooks := .later }
def StubAtOnceUptoCardSaid : Prop := Claim7.holds Tryz.pinned (.plain (OpenSpec.upto stubAtOnceSpec)) stubAtOnceUptoCard
end Rows
end Go.Proofs.YteimenplbanooaaGreatDoor
