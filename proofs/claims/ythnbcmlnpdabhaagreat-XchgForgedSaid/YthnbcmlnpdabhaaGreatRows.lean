/-
  No cell of these rows narrows 'for every input' (looked for: loops, veiled, ifaces, maps, wideKeys, modest, calm, conditions, laid).
  DERIVED. THE GIVEN ROWS OF THIS SEAT. 10 by the template 'for every input the law returns true; each argument reads behind the call as it read before'; 0 by the template 'total and deterministic' (their statements: YthnbcmlnpdabhaaGreatTotals.lean).
  GIVEN WITH THE SEED: the statements are not yours to turn. If you find one false, say at which input.
  Laid BY PROGRAM, IN A SANDBOX (cutbox-rows.mjs): the forced cells as the released guide's own fill.sh prints them over the translation b1a5fe0b9e142027… (all of the seat's roots in one cut). By AI agents, Wed Nov 11 2026. No macro, syntax, notation, axiom, sorry.
-/
import Derived.Test.YthnbcmlnpdabhaaGreatChecked
import GoSem.Claim
import GoSem.ClaimJoined
import GoSem.ClaimMapViews
import Derived.JoinedTies
import Derived.KernelRfl
namespace Go.Proofs.YthnbcmlnpdabhaaGreat
/- THE CELL 'sum', in the pinned program and in every row, IS THE sha256 OF THE DUMP (.gsa) THAT YthnbcmlnpdabhaaGreatProg.lean LOADS. Nothing in Lean hashes anything: it is a label: what it is worth is what the hold of that sum in a sandbox is worth. -/
noncomputable def Tryz.pinned : Pinned := { name := "ythnbcmlnpdabhaagreat", sum := "b1a5fe0b9e142027b3fbbdcd5de025ad0095ca37bb34480a6bd9d16431186df4", checked := Tryz.checked }
namespace Rows
def none {H : Type} : Left H := { results := [], args := [] }

/-- 'wayfinderlaw28.DialPieces': WHATEVER THE INPUT: true; the input reads as it did. -/
def dialPiecesSpec : ChangeSpec := { name := "dialPieces", fn := fun _ => fun
  | [d1, d2] => { results := [.lit (.bool true)], args := [d1, d2] }
  | _ => none }
def dialPiecesRow : OpenClaim := { program := "ythnbcmlnpdabhaagreat", sum := "b1a5fe0b9e142027b3fbbdcd5de025ad0095ca37bb34480a6bd9d16431186df4", func := "wayfinder/wayfinderlaw28.DialPieces", spec := "dialPieces", unfollowed := true, recurses := true, plainKeys := false, apart := false }
def DialPiecesSaid : Prop := dialPiecesRow.holds Tryz.pinned (OpenSpec.ofChange dialPiecesSpec)

/-- ITS FALSE NEIGHBOUR: 'it returns false'. Refute it at one input. -/
def dialPiecesWrong : ChangeSpec := { name := "dialPieces", fn := fun _ => fun
  | [d1, d2] => { results := [.lit (.bool false)], args := [d1, d2] }
  | _ => none }
def DialPiecesWrongFalsely : Prop := dialPiecesRow.holds Tryz.pinned (OpenSpec.ofChange dialPiecesWrong)

/-- 'wayfinderlaw28.DialHears': WHATEVER THE INPUT: true; the input reads as it did. -/
def dialHearsSpec : ChangeSpec := { name := "dialHears", fn := fun _ => fun
  | [d1, d2, d3] => { results := [.lit (.bool true)], args := [d1, d2, d3] }
  | _ => none }
def dialHearsRow : OpenClaim := { program := "ythnbcmlnpdabhaagreat", sum := "b1a5fe0b9e142027b3fbbdcd5de025ad0095ca37bb34480a6bd9d16431186df4", func := "wayfinder/wayfinderlaw28.DialHears", spec := "dialHears", unfollowed := true, recurses := true, plainKeys := false, apart := false }
def DialHearsSaid : Prop := dialHearsRow.holds Tryz.pinned (OpenSpec.ofChange dialHearsSpec)

/-- ITS FALSE NEIGHBOUR: 'it returns false'. Refute it at one input. -/
def dialHearsWrong : ChangeSpec := { name := "dialHears", fn := fun _ => fun
  | [d1, d2, d3] => { results := [.lit (.bool false)], args := [d1, d2, d3] }
  | _ => none }
def DialHearsWrongFalsely : Prop := dialHearsRow.holds Tryz.pinned (OpenSpec.ofChange dialHearsWrong)

/-- 'wayfinderlaw29.XchgForged': WHATEVER THE INPUT: true; the input reads as it did. -/
def xchgForgedSpec : ChangeSpec := { name := "xchgForged", fn := fun _ => fun
  | [d1, d2, d3] => { results := [.lit (.bool true)], args := [d1, d2, d3] }
  | _ => none }
def xchgForgedRow : OpenClaim := { program := "ythnbcmlnpdabhaagreat", sum := "b1a5fe0b9e142027b3fbbdcd5de025ad0095ca37bb34480a6bd9d16431186df4", func := "wayfinder/wayfinderlaw29.XchgForged", spec := "xchgForged", unfollowed := true, recurses := true, plainKeys := false, apart := false }
def XchgForgedSaid : Prop := xchgForgedRow.holds Tryz.pinned (OpenSpec.ofChange xchgForgedSpec)

/-- ITS FALSE NEIGHBOUR: 'it returns false'. Refute it at one input. -/
def xchgForgedWrong : ChangeSpec := { name := "xchgForged", fn := fun _ => fun
  | [d1, d2, d3] => { results := [.lit (.bool false)], args := [d1, d2, d3] }
  | _ => none }
def XchgForgedWrongFalsely : Prop := xchgForgedRow.holds Tryz.pinned (OpenSpec.ofChange xchgForgedWrong)

/-- 'wayfinderlaw29.XchgGoes': WHATEVER THE INPUT: true; the input reads as it did. -/
def xchgGoesSpec : ChangeSpec := { name := "xchgGoes", fn := fun _ => fun
  | [d1, d2] => { results := [.lit (.bool true)], args := [d1, d2] }
  | _ => none }
def xchgGoesRow : OpenClaim := { program := "ythnbcmlnpdabhaagreat", sum := "b1a5fe0b9e142027b3fbbdcd5de025ad0095ca37bb34480a6bd9d16431186df4", func := "wayfinder/wayfinderlaw29.XchgGoes", spec := "xchgGoes", unfollowed := true, recurses := true, plainKeys := false, apart := false }
def XchgGoesSaid : Prop := xchgGoesRow.holds Tryz.pinned (OpenSpec.ofChange xchgGoesSpec)

/-- ITS FALSE NEIGHBOUR: 'it returns false'. Refute it at one input. -/
def xchgGoesWrong : ChangeSpec := { name := "xchgGoes", fn := fun _ => fun
  | [d1, d2] => { results := [.lit (.bool false)], args := [d1, d2] }
  | _ => none }
def XchgGoesWrongFalsely : Prop := xchgGoesRow.holds Tryz.pinned (OpenSpec.ofChange xchgGoesWrong)

/-- 'wayfinderlaw29.XchgParts': WHATEVER THE INPUT: true; the input reads as it did. -/
def xchgPartsSpec : ChangeSpec := { name := "xchgParts", fn := fun _ => fun
  | [d1, d2, d3] => { results := [.lit (.bool true)], args := [d1, d2, d3] }
  | _ => none }
def xchgPartsRow : OpenClaim := { program := "ythnbcmlnpdabhaagreat", sum := "b1a5fe0b9e142027b3fbbdcd5de025ad0095ca37bb34480a6bd9d16431186df4", func := "wayfinder/wayfinderlaw29.XchgParts", spec := "xchgParts", unfollowed := true, recurses := true, plainKeys := false, apart := false }
def XchgPartsSaid : Prop := xchgPartsRow.holds Tryz.pinned (OpenSpec.ofChange xchgPartsSpec)

/-- ITS FALSE NEIGHBOUR: 'it returns false'. Refute it at one input. -/
def xchgPartsWrong : ChangeSpec := { name := "xchgParts", fn := fun _ => fun
  | [d1, d2, d3] => { results := [.lit (.bool false)], args := [d1, d2, d3] }
  | _ => none }
def XchgPartsWrongFalsely : Prop := xchgPartsRow.holds Tryz.pinned (OpenSpec.ofChange xchgPartsWrong)

/-- 'wayfinderlaw29.XchgPlays': WHATEVER THE INPUT: true; the input reads as it did. -/
def xchgPlaysSpec : ChangeSpec := { name := "xchgPlays", fn := fun _ => fun
  | [d1, d2] => { results := [.lit (.bool true)], args := [d1, d2] }
  | _ => none }
def xchgPlaysRow : OpenClaim := { program := "ythnbcmlnpdabhaagreat", sum := "b1a5fe0b9e142027b3fbbdcd5de025ad0095ca37bb34480a6bd9d16431186df4", func := "wayfinder/wayfinderlaw29.XchgPlays", spec := "xchgPlays", unfollowed := true, recurses := true, plainKeys := false, apart := false }
def XchgPlaysSaid : Prop := xchgPlaysRow.holds Tryz.pinned (OpenSpec.ofChange xchgPlaysSpec)

/-- ITS FALSE NEIGHBOUR: 'it returns false'. Refute it at one input. -/
def xchgPlaysWrong : ChangeSpec := { name := "xchgPlays", fn := fun _ => fun
  | [d1, d2] => { results := [.lit (.bool false)], args := [d1, d2] }
  | _ => none }
def XchgPlaysWrongFalsely : Prop := xchgPlaysRow.holds Tryz.pinned (OpenSpec.ofChange xchgPlaysWrong)

/-- 'wayfinderlaw29.XchgEnds': WHATEVER THE INPUT: true; the input reads as it did. -/
def xchgEndsSpec : ChangeSpec := { name := "xchgEnds", fn := fun _ => fun
  | [d1, d2] => { results := [.lit (.bool true)], args := [d1, d2] }
  | _ => none }
def xchgEndsRow : OpenClaim := { program := "ythnbcmlnpdabhaagreat", sum := "b1a5fe0b9e142027b3fbbdcd5de025ad0095ca37bb34480a6bd9d16431186df4", func := "wayfinder/wayfinderlaw29.XchgEnds", spec := "xchgEnds", unfollowed := true, recurses := true, plainKeys := false, apart := false }
def XchgEndsSaid : Prop := xchgEndsRow.holds Tryz.pinned (OpenSpec.ofChange xchgEndsSpec)

/-- ITS FALSE NEIGHBOUR: 'it returns false'. Refute it at one input. -/
def xchgEndsWrong : ChangeSpec := { name := "xchgEnds", fn := fun _ => fun
  | [d1, d2] => { results := [.lit (.bool false)], args := [d1, d2] }
  | _ => none }
def XchgEndsWrongFalsely : Prop := xchgEndsRow.holds Tryz.pinned (OpenSpec.ofChange xchgEndsWrong)

/-- 'wayfinderlaw35.SingleEnds': WHATEVER THE INPUT: true; the input reads as it did. -/
def singleEndsSpec : ChangeSpec := { name := "singleEnds", fn := fun _ => fun
  | [d1, d2] => { results := [.lit (.bool true)], args := [d1, d2] }
  | _ => none }
def singleEndsRow : OpenClaim := { program := "ythnbcmlnpdabhaagreat", sum := "b1a5fe0b9e142027b3fbbdcd5de025ad0095ca37bb34480a6bd9d16431186df4", func := "wayfinder/wayfinderlaw35.SingleEnds", spec := "singleEnds", unfollowed := true, recurses := true, plainKeys := false, apart := false }
def SingleEndsSaid : Prop := singleEndsRow.holds Tryz.pinned (OpenSpec.ofChange singleEndsSpec)

/-- ITS FALSE NEIGHBOUR: 'it returns false'. Refute it at one input. -/
def singleEndsWrong : ChangeSpec := { name := "singleEnds", fn := fun _ => fun
  | [d1, d2] => { results := [.lit (.bool false)], args := [d1, d2] }
  | _ => none }
def SingleEndsWrongFalsely : Prop := singleEndsRow.holds Tryz.pinned (OpenSpec.ofChange singleEndsWrong)

/-- 'wayfinderlaw30.JudgeAgrees': WHATEVER THE INPUT: true; the input reads as it did. -/
def judgeAgreesSpec : ChangeSpec := { name := "judgeAgrees", fn := fun _ => fun
  | [d1, d2] => { results := [.lit (.bool true)], args := [d1, d2] }
  | _ => none }
def judgeAgreesRow : OpenClaim := { program := "ythnbcmlnpdabhaagreat", sum := "b1a5fe0b9e142027b3fbbdcd5de025ad0095ca37bb34480a6bd9d16431186df4", func := "wayfinder/wayfinderlaw30.JudgeAgrees", spec := "judgeAgrees", unfollowed := true, recurses := true, plainKeys := false, apart := false }
def JudgeAgreesSaid : Prop := judgeAgreesRow.holds Tryz.pinned (OpenSpec.ofChange judgeAgreesSpec)

/-- ITS FALSE NEIGHBOUR: 'it returns false'. Refute it at one input. -/
def judgeAgreesWrong : ChangeSpec := { name := "judgeAgrees", fn := fun _ => fun
  | [d1, d2] => { results := [.lit (.bool false)], args := [d1, d2] }
  | _ => none }
def JudgeAgreesWrongFalsely : Prop := judgeAgreesRow.holds Tryz.pinned (OpenSpec.ofChange judgeAgreesWrong)

/-- 'wayfinderlaw32.PairEnds': WHATEVER THE INPUT: true; the input reads as it did. -/
def pairEndsSpec : ChangeSpec := { name := "pairEnds", fn := fun _ => fun
  | [d1, d2] => { results := [.lit (.bool true)], args := [d1, d2] }
  | _ => none }
def pairEndsRow : OpenClaim := { program := "ythnbcmlnpdabhaagreat", sum := "b1a5fe0b9e142027b3fbbdcd5de025ad0095ca37bb34480a6bd9d16431186df4", func := "wayfinder/wayfinderlaw32.PairEnds", spec := "pairEnds", unfollowed := true, recurses := true, plainKeys := false, apart := false }
def PairEndsSaid : Prop := pairEndsRow.holds Tryz.pinned (OpenSpec.ofChange pairEndsSpec)

/-- ITS FALSE NEIGHBOUR: 'it returns false'. Refute it at one input. -/
def pairEndsWrong : ChangeSpec := { name := "pairEnds", fn := fun _ => fun
  | [d1, d2] => { results := [.lit (.bool false)], args := [d1, d2] }
  | _ => none }
def PairEndsWrongFalsely : Prop := pairEndsRow.holds Tryz.pinned (OpenSpec.ofChange pairEndsWrong)

/- THE SECOND FORM. 'bulk': how many values and letters a reading holds, each counted each time it is reached (what is shared counts as often as it is met; a slice's spare places count too). A statement '..UptoSaid' is the law's where the arguments, and the package variables that the reading takes, are together of bulk at most 1048576: NARROWER than '..Said'. Prove '..Said' where nothing that the law and all that it calls make is longer than what came in: it says more and counts as full. Else prove '..UptoSaid'. A law counts once. -/
mutual
def uptoBulk {H : Type} : DataW H → Nat
  | .lit (.string bytes) => bytes.length + 1
  | .lit _ => 1
  | .nil => 1
  | .ptr d => uptoBulk d + 1
  | .slice elems spare => uptoBulkAll elems + uptoBulkAll spare + 1
  | .agg parts => uptoBulkAll parts + 1
  | .iface _ d => uptoBulk d + 1
  | .map entries => uptoBulkEntries entries + 1
  | .held _ => 1
def uptoBulkAll {H : Type} : List (DataW H) → Nat
  | [] => 0
  | d :: r => uptoBulk d + uptoBulkAll r
def uptoBulkEntries {H : Type} : List (Lit × DataW H) → Nat
  | [] => 0
  | x :: r => uptoBulkEntry x + uptoBulkEntries r
def uptoBulkEntry {H : Type} : Lit × DataW H → Nat
  | (.string bytes, d) => bytes.length + uptoBulk d + 1
  | (_, d) => uptoBulk d + 1
 end
def uptoSmall : (H : Type) → List (DataW H) → Bool := fun _ ds => decide (uptoBulkAll ds ≤ 1048576)
def OpenSpec.upto (s : _root_.Go.ChangeSpec) : _root_.Go.OpenSpec := { _root_.Go.OpenSpec.ofChange s with cond := some uptoSmall }

/-- 'wayfinderlaw28.DialPieces', WHERE WHAT IT READS IS OF BULK AT MOST 1048576: true; the input reads as it did. -/
def dialPiecesUptoRow : OpenClaim := { program := "ythnbcmlnpdabhaagreat", sum := "b1a5fe0b9e142027b3fbbdcd5de025ad0095ca37bb34480a6bd9d16431186df4", func := "wayfinder/wayfinderlaw28.DialPieces", spec := "dialPieces", unfollowed := true, recurses := true, plainKeys := false, apart := false, narrowed := true }
def DialPiecesUptoSaid : Prop := dialPiecesUptoRow.holds Tryz.pinned (OpenSpec.upto dialPiecesSpec)

/-- 'wayfinderlaw28.DialHears', WHERE WHAT IT READS IS OF BULK AT MOST 1048576: true; the input reads as it did. -/
def dialHearsUptoRow : OpenClaim := { program := "ythnbcmlnpdabhaagreat", sum := "b1a5fe0b9e142027b3fbbdcd5de025ad0095ca37bb34480a6bd9d16431186df4", func := "wayfinder/wayfinderlaw28.DialHears", spec := "dialHears", unfollowed := true, recurses := true, plainKeys := false, apart := false, narrowed := true }
def DialHearsUptoSaid : Prop := dialHearsUptoRow.holds Tryz.pinned (OpenSpec.upto dialHearsSpec)

/-- 'wayfinderlaw29.XchgForged', WHERE WHAT IT READS IS OF BULK AT MOST 1048576: true; the input reads as it did. -/
def xchgForgedUptoRow : OpenClaim := { program := "ythnbcmlnpdabhaagreat", sum := "b1a5fe0b9e142027b3fbbdcd5de025ad0095ca37bb34480a6bd9d16431186df4", func := "wayfinder/wayfinderlaw29.XchgForged", spec := "xchgForged", unfollowed := true, recurses := true, plainKeys := false, apart := false, narrowed := true }
def XchgForgedUptoSaid : Prop := xchgForgedUptoRow.holds Tryz.pinned (OpenSpec.upto xchgForgedSpec)

/-- 'wayfinderlaw29.XchgGoes', WHERE WHAT IT READS IS OF BULK AT MOST 1048576: true; the input reads as it did. -/
def xchgGoesUptoRow : OpenClaim := { program := "ythnbcmlnpdabhaagreat", sum := "b1a5fe0b9e142027b3fbbdcd5de025ad0095ca37bb34480a6bd9d16431186df4", func := "wayfinder/wayfinderlaw29.XchgGoes", spec := "xchgGoes", unfollowed := true, recurses := true, plainKeys := false, apart := false, narrowed := true }
def XchgGoesUptoSaid : Prop := xchgGoesUptoRow.holds Tryz.pinned (OpenSpec.upto xchgGoesSpec)

/-- 'wayfinderlaw29.XchgParts', WHERE WHAT IT READS IS OF BULK AT MOST 1048576: true; the input reads as it did. -/
def xchgPartsUptoRow : OpenClaim := { program := "ythnbcmlnpdabhaagreat", sum := "b1a5fe0b9e142027b3fbbdcd5de025ad0095ca37bb34480a6bd9d16431186df4", func := "wayfinder/wayfinderlaw29.XchgParts", spec := "xchgParts", unfollowed := true, recurses := true, plainKeys := false, apart := false, narrowed := true }
def XchgPartsUptoSaid : Prop := xchgPartsUptoRow.holds Tryz.pinned (OpenSpec.upto xchgPartsSpec)

/-- 'wayfinderlaw29.XchgPlays', WHERE WHAT IT READS IS OF BULK AT MOST 1048576: true; the input reads as it did. -/
def xchgPlaysUptoRow : OpenClaim := { program := "ythnbcmlnpdabhaagreat", sum := "b1a5fe0b9e142027b3fbbdcd5de025ad0095ca37bb34480a6bd9d16431186df4", func := "wayfinder/wayfinderlaw29.XchgPlays", spec := "xchgPlays", unfollowed := true, recurses := true, plainKeys := false, apart := false, narrowed := true }
def XchgPlaysUptoSaid : Prop := xchgPlaysUptoRow.holds Tryz.pinned (OpenSpec.upto xchgPlaysSpec)

/-- 'wayfinderlaw29.XchgEnds', WHERE WHAT IT READS IS OF BULK AT MOST 1048576: true; the input reads as it did. -/
def xchgEndsUptoRow : OpenClaim := { program := "ythnbcmlnpdabhaagreat", sum := "b1a5fe0b9e142027b3fbbdcd5de025ad0095ca37bb34480a6bd9d16431186df4", func := "wayfinder/wayfinderlaw29.XchgEnds", spec := "xchgEnds", unfollowed := true, recurses := true, plainKeys := false, apart := false, narrowed := true }
def XchgEndsUptoSaid : Prop := xchgEndsUptoRow.holds Tryz.pinned (OpenSpec.upto xchgEndsSpec)

/-- 'wayfinderlaw35.SingleEnds', WHERE WHAT IT READS IS OF BULK AT MOST 1048576: true; the input reads as it did. -/
def singleEndsUptoRow : OpenClaim := { program := "ythnbcmlnpdabhaagreat", sum := "b1a5fe0b9e142027b3fbbdcd5de025ad0095ca37bb34480a6bd9d16431186df4", func := "wayfinder/wayfinderlaw35.SingleEnds", spec := "singleEnds", unfollowed := true, recurses := true, plainKeys := false, apart := false, narrowed := true }
def SingleEndsUptoSaid : Prop := singleEndsUptoRow.holds Tryz.pinned (OpenSpec.upto singleEndsSpec)

/-- 'wayfinderlaw30.JudgeAgrees', WHERE WHAT IT READS IS OF BULK AT MOST 1048576: true; the input reads as it did. -/
def judgeAgreesUptoRow : OpenClaim := { program := "ythnbcmlnpdabhaagreat", sum := "b1a5fe0b9e142027b3fbbdcd5de025ad0095ca37bb34480a6bd9d16431186df4", func := "wayfinder/wayfinderlaw30.JudgeAgrees", spec := "judgeAgrees", unfollowed := true, recurses := true, plainKeys := false, apart := false, narrowed := true }
def JudgeAgreesUptoSaid : Prop := judgeAgreesUptoRow.holds Tryz.pinned (OpenSpec.upto judgeAgreesSpec)

/-- 'wayfinderlaw32.PairEnds', WHERE WHAT IT READS IS OF BULK AT MOST 1048576: true; the input reads as it did. -/
def pairEndsUptoRow : OpenClaim := { program := "ythnbcmlnpdabhaagreat", sum := "b1a5fe0b9e142027b3fbbdcd5de025ad0095ca37bb34480a6bd9d16431186df4", func := "wayfinder/wayfinderlaw32.PairEnds", spec := "pairEnds", unfollowed := true, recurses := true, plainKeys := false, apart := false, narrowed := true }
def PairEndsUptoSaid : Prop := pairEndsUptoRow.holds Tryz.pinned (OpenSpec.upto pairEndsSpec)

end Rows
end Go.Proofs.YthnbcmlnpdabhaaGreat
