/-
  No cell of these rows narrows 'for every input' (looked for: loops, veiled, ifaces, maps, wideKeys, modest, calm, conditions, laid).
  DERIVED. THE GIVEN ROWS OF THIS SEAT. 15 by the template 'for every input the law returns true; each argument reads behind the call as it read before'; 0 by the template 'total and deterministic' (their statements: YtlmgdogblbigpaaTotals.lean).
  GIVEN WITH THE SEED: the statements are not yours to turn. If you find one false, say at which input.
  Laid BY PROGRAM, IN A SANDBOX (cutbox-rows.mjs): the forced cells as the released guide's own fill.sh prints them over the translation 41066bcebbdb0510… (all of the seat's roots in one cut). By AI agents, Wed Nov 11 2026. No macro, syntax, notation, axiom, sorry.
-/
import Derived.Test.YtlmgdogblbigpaaChecked
import GoSem.Claim
import GoSem.ClaimJoined
import GoSem.ClaimMapViews
import Derived.JoinedTies
import Derived.KernelRfl
namespace Go.Proofs.Ytlmgdogblbigpaa
/- THE CELL 'sum', in the pinned program and in every row, IS THE sha256 OF THE DUMP (.gsa) THAT YtlmgdogblbigpaaProg.lean LOADS. Nothing in Lean hashes anything: it is a label: what it is worth is what the hold of that sum in a sandbox is worth. -/
noncomputable def Try.pinned : Pinned := { name := "ytlmgdogblbigpaa", sum := "41066bcebbdb051087880444014006a0b30d9a01a58496cdba4875d7ec0c8e9c", checked := Try.checked }
namespace Rows
def none {H : Type} : Left H := { results := [], args := [] }

/-- 'wayfinderlaw12.PackedGets': WHATEVER THE INPUT: true; the input reads as it did. -/
def packedGetsSpec : ChangeSpec := { name := "packedGets", fn := fun _ => fun
  | [d1, d2] => { results := [.lit (.bool true)], args := [d1, d2] }
  | _ => none }
def packedGetsRow : OpenClaim := { program := "ytlmgdogblbigpaa", sum := "41066bcebbdb051087880444014006a0b30d9a01a58496cdba4875d7ec0c8e9c", func := "wayfinder/wayfinderlaw12.PackedGets", spec := "packedGets", unfollowed := true, recurses := true, apart := false }
def PackedGetsSaid : Prop := packedGetsRow.holds Try.pinned (OpenSpec.ofChange packedGetsSpec)

/-- ITS FALSE NEIGHBOUR: 'it returns false'. Refute it at one input. -/
def packedGetsWrong : ChangeSpec := { name := "packedGets", fn := fun _ => fun
  | [d1, d2] => { results := [.lit (.bool false)], args := [d1, d2] }
  | _ => none }
def PackedGetsWrongFalsely : Prop := packedGetsRow.holds Try.pinned (OpenSpec.ofChange packedGetsWrong)

/-- 'wayfinderlaw12.PackedPuts': WHATEVER THE INPUT: true; the input reads as it did. -/
def packedPutsSpec : ChangeSpec := { name := "packedPuts", fn := fun _ => fun
  | [d1, d2] => { results := [.lit (.bool true)], args := [d1, d2] }
  | _ => none }
def packedPutsRow : OpenClaim := { program := "ytlmgdogblbigpaa", sum := "41066bcebbdb051087880444014006a0b30d9a01a58496cdba4875d7ec0c8e9c", func := "wayfinder/wayfinderlaw12.PackedPuts", spec := "packedPuts", unfollowed := true, recurses := true, apart := false }
def PackedPutsSaid : Prop := packedPutsRow.holds Try.pinned (OpenSpec.ofChange packedPutsSpec)

/-- ITS FALSE NEIGHBOUR: 'it returns false'. Refute it at one input. -/
def packedPutsWrong : ChangeSpec := { name := "packedPuts", fn := fun _ => fun
  | [d1, d2] => { results := [.lit (.bool false)], args := [d1, d2] }
  | _ => none }
def PackedPutsWrongFalsely : Prop := packedPutsRow.holds Try.pinned (OpenSpec.ofChange packedPutsWrong)

/-- 'wayfinderlaw12.PackedBack': WHATEVER THE INPUT: true; the input reads as it did. -/
def packedBackSpec : ChangeSpec := { name := "packedBack", fn := fun _ => fun
  | [d1, d2] => { results := [.lit (.bool true)], args := [d1, d2] }
  | _ => none }
def packedBackRow : OpenClaim := { program := "ytlmgdogblbigpaa", sum := "41066bcebbdb051087880444014006a0b30d9a01a58496cdba4875d7ec0c8e9c", func := "wayfinder/wayfinderlaw12.PackedBack", spec := "packedBack", unfollowed := true, recurses := true, apart := false }
def PackedBackSaid : Prop := packedBackRow.holds Try.pinned (OpenSpec.ofChange packedBackSpec)

/-- ITS FALSE NEIGHBOUR: 'it returns false'. Refute it at one input. -/
def packedBackWrong : ChangeSpec := { name := "packedBack", fn := fun _ => fun
  | [d1, d2] => { results := [.lit (.bool false)], args := [d1, d2] }
  | _ => none }
def PackedBackWrongFalsely : Prop := packedBackRow.holds Try.pinned (OpenSpec.ofChange packedBackWrong)

/-- 'wayfinderlaw14.MessageWrites': WHATEVER THE INPUT: true; the input reads as it did. -/
def messageWritesSpec : ChangeSpec := { name := "messageWrites", fn := fun _ => fun
  | [d1, d2] => { results := [.lit (.bool true)], args := [d1, d2] }
  | _ => none }
def messageWritesRow : OpenClaim := { program := "ytlmgdogblbigpaa", sum := "41066bcebbdb051087880444014006a0b30d9a01a58496cdba4875d7ec0c8e9c", func := "wayfinder/wayfinderlaw14.MessageWrites", spec := "messageWrites", apart := false }
def MessageWritesSaid : Prop := messageWritesRow.holds Try.pinned (OpenSpec.ofChange messageWritesSpec)

/-- ITS FALSE NEIGHBOUR: 'it returns false'. Refute it at one input. -/
def messageWritesWrong : ChangeSpec := { name := "messageWrites", fn := fun _ => fun
  | [d1, d2] => { results := [.lit (.bool false)], args := [d1, d2] }
  | _ => none }
def MessageWritesWrongFalsely : Prop := messageWritesRow.holds Try.pinned (OpenSpec.ofChange messageWritesWrong)

/-- 'wayfinderlaw25.MatchReplies': WHATEVER THE INPUT: true; the input reads as it did. -/
def matchRepliesSpec : ChangeSpec := { name := "matchReplies", fn := fun _ => fun
  | [d1, d2] => { results := [.lit (.bool true)], args := [d1, d2] }
  | _ => none }
def matchRepliesRow : OpenClaim := { program := "ytlmgdogblbigpaa", sum := "41066bcebbdb051087880444014006a0b30d9a01a58496cdba4875d7ec0c8e9c", func := "wayfinder/wayfinderlaw25.MatchReplies", spec := "matchReplies", unfollowed := true, recurses := true, apart := false }
def MatchRepliesSaid : Prop := matchRepliesRow.holds Try.pinned (OpenSpec.ofChange matchRepliesSpec)

/-- ITS FALSE NEIGHBOUR: 'it returns false'. Refute it at one input. -/
def matchRepliesWrong : ChangeSpec := { name := "matchReplies", fn := fun _ => fun
  | [d1, d2] => { results := [.lit (.bool false)], args := [d1, d2] }
  | _ => none }
def MatchRepliesWrongFalsely : Prop := matchRepliesRow.holds Try.pinned (OpenSpec.ofChange matchRepliesWrong)

/-- 'wayfinderlaw25.MatchPackets': WHATEVER THE INPUT: true; the input reads as it did. -/
def matchPacketsSpec : ChangeSpec := { name := "matchPackets", fn := fun _ => fun
  | [d1, d2] => { results := [.lit (.bool true)], args := [d1, d2] }
  | _ => none }
def matchPacketsRow : OpenClaim := { program := "ytlmgdogblbigpaa", sum := "41066bcebbdb051087880444014006a0b30d9a01a58496cdba4875d7ec0c8e9c", func := "wayfinder/wayfinderlaw25.MatchPackets", spec := "matchPackets", unfollowed := true, recurses := true, apart := false }
def MatchPacketsSaid : Prop := matchPacketsRow.holds Try.pinned (OpenSpec.ofChange matchPacketsSpec)

/-- ITS FALSE NEIGHBOUR: 'it returns false'. Refute it at one input. -/
def matchPacketsWrong : ChangeSpec := { name := "matchPackets", fn := fun _ => fun
  | [d1, d2] => { results := [.lit (.bool false)], args := [d1, d2] }
  | _ => none }
def MatchPacketsWrongFalsely : Prop := matchPacketsRow.holds Try.pinned (OpenSpec.ofChange matchPacketsWrong)

/-- 'wayfinderlaw25.MatchAll': WHATEVER THE INPUT: true; the input reads as it did. -/
def matchAllSpec : ChangeSpec := { name := "matchAll", fn := fun _ => fun
  | [d1, d2] => { results := [.lit (.bool true)], args := [d1, d2] }
  | _ => none }
def matchAllRow : OpenClaim := { program := "ytlmgdogblbigpaa", sum := "41066bcebbdb051087880444014006a0b30d9a01a58496cdba4875d7ec0c8e9c", func := "wayfinder/wayfinderlaw25.MatchAll", spec := "matchAll", unfollowed := true, recurses := true, apart := false }
def MatchAllSaid : Prop := matchAllRow.holds Try.pinned (OpenSpec.ofChange matchAllSpec)

/-- ITS FALSE NEIGHBOUR: 'it returns false'. Refute it at one input. -/
def matchAllWrong : ChangeSpec := { name := "matchAll", fn := fun _ => fun
  | [d1, d2] => { results := [.lit (.bool false)], args := [d1, d2] }
  | _ => none }
def MatchAllWrongFalsely : Prop := matchAllRow.holds Try.pinned (OpenSpec.ofChange matchAllWrong)

/-- 'wayfinderlaw25.MatchCase': WHATEVER THE INPUT: true; the input reads as it did. -/
def matchCaseSpec : ChangeSpec := { name := "matchCase", fn := fun _ => fun
  | [d1, d2] => { results := [.lit (.bool true)], args := [d1, d2] }
  | _ => none }
def matchCaseRow : OpenClaim := { program := "ytlmgdogblbigpaa", sum := "41066bcebbdb051087880444014006a0b30d9a01a58496cdba4875d7ec0c8e9c", func := "wayfinder/wayfinderlaw25.MatchCase", spec := "matchCase", unfollowed := true, recurses := true, apart := false }
def MatchCaseSaid : Prop := matchCaseRow.holds Try.pinned (OpenSpec.ofChange matchCaseSpec)

/-- ITS FALSE NEIGHBOUR: 'it returns false'. Refute it at one input. -/
def matchCaseWrong : ChangeSpec := { name := "matchCase", fn := fun _ => fun
  | [d1, d2] => { results := [.lit (.bool false)], args := [d1, d2] }
  | _ => none }
def MatchCaseWrongFalsely : Prop := matchCaseRow.holds Try.pinned (OpenSpec.ofChange matchCaseWrong)

/-- 'wayfinderlaw24.AskOwn': WHATEVER THE INPUT: true; the input reads as it did. -/
def askOwnSpec : ChangeSpec := { name := "askOwn", fn := fun _ => fun
  | [d1, d2] => { results := [.lit (.bool true)], args := [d1, d2] }
  | _ => none }
def askOwnRow : OpenClaim := { program := "ytlmgdogblbigpaa", sum := "41066bcebbdb051087880444014006a0b30d9a01a58496cdba4875d7ec0c8e9c", func := "wayfinder/wayfinderlaw24.AskOwn", spec := "askOwn", apart := false }
def AskOwnSaid : Prop := askOwnRow.holds Try.pinned (OpenSpec.ofChange askOwnSpec)

/-- ITS FALSE NEIGHBOUR: 'it returns false'. Refute it at one input. -/
def askOwnWrong : ChangeSpec := { name := "askOwn", fn := fun _ => fun
  | [d1, d2] => { results := [.lit (.bool false)], args := [d1, d2] }
  | _ => none }
def AskOwnWrongFalsely : Prop := askOwnRow.holds Try.pinned (OpenSpec.ofChange askOwnWrong)

/-- 'wayfinderlaw13.RdataBack': WHATEVER THE INPUT: true; the input reads as it did. -/
def rdataBackSpec : ChangeSpec := { name := "rdataBack", fn := fun _ => fun
  | [d1, d2] => { results := [.lit (.bool true)], args := [d1, d2] }
  | _ => none }
def rdataBackRow : OpenClaim := { program := "ytlmgdogblbigpaa", sum := "41066bcebbdb051087880444014006a0b30d9a01a58496cdba4875d7ec0c8e9c", func := "wayfinder/wayfinderlaw13.RdataBack", spec := "rdataBack", unfollowed := true, recurses := true, apart := false }
def RdataBackSaid : Prop := rdataBackRow.holds Try.pinned (OpenSpec.ofChange rdataBackSpec)

/-- ITS FALSE NEIGHBOUR: 'it returns false'. Refute it at one input. -/
def rdataBackWrong : ChangeSpec := { name := "rdataBack", fn := fun _ => fun
  | [d1, d2] => { results := [.lit (.bool false)], args := [d1, d2] }
  | _ => none }
def RdataBackWrongFalsely : Prop := rdataBackRow.holds Try.pinned (OpenSpec.ofChange rdataBackWrong)

/-- 'wayfinderlaw14.MessageReads': WHATEVER THE INPUT: true; the input reads as it did. -/
def messageReadsSpec : ChangeSpec := { name := "messageReads", fn := fun _ => fun
  | [d] => { results := [.lit (.bool true)], args := [d] }
  | _ => none }
def messageReadsRow : OpenClaim := { program := "ytlmgdogblbigpaa", sum := "41066bcebbdb051087880444014006a0b30d9a01a58496cdba4875d7ec0c8e9c", func := "wayfinder/wayfinderlaw14.MessageReads", spec := "messageReads", unfollowed := true, recurses := true, apart := false }
def MessageReadsSaid : Prop := messageReadsRow.holds Try.pinned (OpenSpec.ofChange messageReadsSpec)

/-- ITS FALSE NEIGHBOUR: 'it returns false'. Refute it at one input. -/
def messageReadsWrong : ChangeSpec := { name := "messageReads", fn := fun _ => fun
  | [d] => { results := [.lit (.bool false)], args := [d] }
  | _ => none }
def MessageReadsWrongFalsely : Prop := messageReadsRow.holds Try.pinned (OpenSpec.ofChange messageReadsWrong)

/-- 'wayfinderlaw14.MessageBack': WHATEVER THE INPUT: true; the input reads as it did. -/
def messageBackSpec : ChangeSpec := { name := "messageBack", fn := fun _ => fun
  | [d] => { results := [.lit (.bool true)], args := [d] }
  | _ => none }
def messageBackRow : OpenClaim := { program := "ytlmgdogblbigpaa", sum := "41066bcebbdb051087880444014006a0b30d9a01a58496cdba4875d7ec0c8e9c", func := "wayfinder/wayfinderlaw14.MessageBack", spec := "messageBack", unfollowed := true, recurses := true, apart := false }
def MessageBackSaid : Prop := messageBackRow.holds Try.pinned (OpenSpec.ofChange messageBackSpec)

/-- ITS FALSE NEIGHBOUR: 'it returns false'. Refute it at one input. -/
def messageBackWrong : ChangeSpec := { name := "messageBack", fn := fun _ => fun
  | [d] => { results := [.lit (.bool false)], args := [d] }
  | _ => none }
def MessageBackWrongFalsely : Prop := messageBackRow.holds Try.pinned (OpenSpec.ofChange messageBackWrong)

/-- 'wayfinderlaw14.MessageLong': WHATEVER THE INPUT: true; the input reads as it did. -/
def messageLongSpec : ChangeSpec := { name := "messageLong", fn := fun _ => fun
  | [d1, d2] => { results := [.lit (.bool true)], args := [d1, d2] }
  | _ => none }
def messageLongRow : OpenClaim := { program := "ytlmgdogblbigpaa", sum := "41066bcebbdb051087880444014006a0b30d9a01a58496cdba4875d7ec0c8e9c", func := "wayfinder/wayfinderlaw14.MessageLong", spec := "messageLong", unfollowed := true, recurses := true, apart := false }
def MessageLongSaid : Prop := messageLongRow.holds Try.pinned (OpenSpec.ofChange messageLongSpec)

/-- ITS FALSE NEIGHBOUR: 'it returns false'. Refute it at one input. -/
def messageLongWrong : ChangeSpec := { name := "messageLong", fn := fun _ => fun
  | [d1, d2] => { results := [.lit (.bool false)], args := [d1, d2] }
  | _ => none }
def MessageLongWrongFalsely : Prop := messageLongRow.holds Try.pinned (OpenSpec.ofChange messageLongWrong)

/-- 'wayfinderlaw14.MessageAgain': WHATEVER THE INPUT: true; the input reads as it did. -/
def messageAgainSpec : ChangeSpec := { name := "messageAgain", fn := fun _ => fun
  | [d1, d2] => { results := [.lit (.bool true)], args := [d1, d2] }
  | _ => none }
def messageAgainRow : OpenClaim := { program := "ytlmgdogblbigpaa", sum := "41066bcebbdb051087880444014006a0b30d9a01a58496cdba4875d7ec0c8e9c", func := "wayfinder/wayfinderlaw14.MessageAgain", spec := "messageAgain", unfollowed := true, recurses := true, apart := false }
def MessageAgainSaid : Prop := messageAgainRow.holds Try.pinned (OpenSpec.ofChange messageAgainSpec)

/-- ITS FALSE NEIGHBOUR: 'it returns false'. Refute it at one input. -/
def messageAgainWrong : ChangeSpec := { name := "messageAgain", fn := fun _ => fun
  | [d1, d2] => { results := [.lit (.bool false)], args := [d1, d2] }
  | _ => none }
def MessageAgainWrongFalsely : Prop := messageAgainRow.holds Try.pinned (OpenSpec.ofChange messageAgainWrong)

/-- 'wayfinderlaw24.AskBuilds': WHATEVER THE INPUT: true; the input reads as it did. -/
def askBuildsSpec : ChangeSpec := { name := "askBuilds", fn := fun _ => fun
  | [d1, d2, d3] => { results := [.lit (.bool true)], args := [d1, d2, d3] }
  | _ => none }
def askBuildsRow : OpenClaim := { program := "ytlmgdogblbigpaa", sum := "41066bcebbdb051087880444014006a0b30d9a01a58496cdba4875d7ec0c8e9c", func := "wayfinder/wayfinderlaw24.AskBuilds", spec := "askBuilds", unfollowed := true, recurses := true, apart := false }
def AskBuildsSaid : Prop := askBuildsRow.holds Try.pinned (OpenSpec.ofChange askBuildsSpec)

/-- ITS FALSE NEIGHBOUR: 'it returns false'. Refute it at one input. -/
def askBuildsWrong : ChangeSpec := { name := "askBuilds", fn := fun _ => fun
  | [d1, d2, d3] => { results := [.lit (.bool false)], args := [d1, d2, d3] }
  | _ => none }
def AskBuildsWrongFalsely : Prop := askBuildsRow.holds Try.pinned (OpenSpec.ofChange askBuildsWrong)

/- THE SECOND FORM. 'bulk': how many values and letters a reading holds, each counted each time it is reached (what is shared counts as often as it is met; a slice's spare places count too). A statement '..UptoSaid' is the law's where the arguments, and the package variables that the reading takes, are together of bulk at most 1048576: NARROWER than '..Said'. Prove '..Said' where nothing that the law and all that it calls make is longer than what came in: it says more and counts as full. Else prove '..UptoSaid'. A law counts once. -/
mutual
def uptoBulk {H : Type} : DataW H → Nat
  | .lit (.string bytes) => bytes.length + 1
  | .lit _ => 1
  | .nil => 1
  | .ptr d => uptoBulk d + 1
  | .slice elems spare => uptoBulkAll elems + uptoBulkAll spare + 1
  | .agg parts => uptoBulkAll parts + 1
  | .iface _ d => uptoBulk d + 1
  | .map entries => uptoBulkEntries entries + 1
  | .held _ => 1
def uptoBulkAll {H : Type} : List (DataW H) → Nat
  | [] => 0
  | d :: r => uptoBulk d + uptoBulkAll r
def uptoBulkEntries {H : Type} : List (Lit × DataW H) → Nat
  | [] => 0
  | x :: r => uptoBulkEntry x + uptoBulkEntries r
def uptoBulkEntry {H : Type} : Lit × DataW H → Nat
  | (.string bytes, d) => bytes.length + uptoBulk d + 1
  | (_, d) => uptoBulk d + 1
 end
def uptoSmall : (H : Type) → List (DataW H) → Bool := fun _ ds => decide (uptoBulkAll ds ≤ 1048576)
def OpenSpec.upto (s : _root_.Go.ChangeSpec) : _root_.Go.OpenSpec := { _root_.Go.OpenSpec.ofChange s with cond := some uptoSmall }

/-- 'wayfinderlaw12.PackedGets', WHERE WHAT IT READS IS OF BULK AT MOST 1048576: true; the input reads as it did. -/
def packedGetsUptoRow : OpenClaim := { program := "ytlmgdogblbigpaa", sum := "41066bcebbdb051087880444014006a0b30d9a01a58496cdba4875d7ec0c8e9c", func := "wayfinder/wayfinderlaw12.PackedGets", spec := "packedGets", unfollowed := true, recurses := true, apart := false, narrowed := true }
def PackedGetsUptoSaid : Prop := packedGetsUptoRow.holds Try.pinned (OpenSpec.upto packedGetsSpec)

/-- 'wayfinderlaw12.PackedPuts', WHERE WHAT IT READS IS OF BULK AT MOST 1048576: true; the input reads as it did. -/
def packedPutsUptoRow : OpenClaim := { program := "ytlmgdogblbigpaa", sum := "41066bcebbdb051087880444014006a0b30d9a01a58496cdba4875d7ec0c8e9c", func := "wayfinder/wayfinderlaw12.PackedPuts", spec := "packedPuts", unfollowed := true, recurses := true, apart := false, narrowed := true }
def PackedPutsUptoSaid : Prop := packedPutsUptoRow.holds Try.pinned (OpenSpec.upto packedPutsSpec)

/-- 'wayfinderlaw12.PackedBack', WHERE WHAT IT READS IS OF BULK AT MOST 1048576: true; the input reads as it did. -/
def packedBackUptoRow : OpenClaim := { program := "ytlmgdogblbigpaa", sum := "41066bcebbdb051087880444014006a0b30d9a01a58496cdba4875d7ec0c8e9c", func := "wayfinder/wayfinderlaw12.PackedBack", spec := "packedBack", unfollowed := true, recurses := true, apart := false, narrowed := true }
def PackedBackUptoSaid : Prop := packedBackUptoRow.holds Try.pinned (OpenSpec.upto packedBackSpec)

/-- 'wayfinderlaw14.MessageWrites', WHERE WHAT IT READS IS OF BULK AT MOST 1048576: true; the input reads as it did. -/
def messageWritesUptoRow : OpenClaim := { program := "ytlmgdogblbigpaa", sum := "41066bcebbdb051087880444014006a0b30d9a01a58496cdba4875d7ec0c8e9c", func := "wayfinder/wayfinderlaw14.MessageWrites", spec := "messageWrites", apart := false, narrowed := true }
def MessageWritesUptoSaid : Prop := messageWritesUptoRow.holds Try.pinned (OpenSpec.upto messageWritesSpec)

/-- 'wayfinderlaw25.MatchReplies', WHERE WHAT IT READS IS OF BULK AT MOST 1048576: true; the input reads as it did. -/
def matchRepliesUptoRow : OpenClaim := { program := "ytlmgdogblbigpaa", sum := "41066bcebbdb051087880444014006a0b30d9a01a58496cdba4875d7ec0c8e9c", func := "wayfinder/wayfinderlaw25.MatchReplies", spec := "matchReplies", unfollowed := true, recurses := true, apart := false, narrowed := true }
def MatchRepliesUptoSaid : Prop := matchRepliesUptoRow.holds Try.pinned (OpenSpec.upto matchRepliesSpec)

/-- 'wayfinderlaw25.MatchPackets', WHERE WHAT IT READS IS OF BULK AT MOST 1048576: true; the input reads as it did. -/
def matchPacketsUptoRow : OpenClaim := { program := "ytlmgdogblbigpaa", sum := "41066bcebbdb051087880444014006a0b30d9a01a58496cdba4875d7ec0c8e9c", func := "wayfinder/wayfinderlaw25.MatchPackets", spec := "matchPackets", unfollowed := true, recurses := true, apart := false, narrowed := true }
def MatchPacketsUptoSaid : Prop := matchPacketsUptoRow.holds Try.pinned (OpenSpec.upto matchPacketsSpec)

/-- 'wayfinderlaw25.MatchAll', WHERE WHAT IT READS IS OF BULK AT MOST 1048576: true; the input reads as it did. -/
def matchAllUptoRow : OpenClaim := { program := "ytlmgdogblbigpaa", sum := "41066bcebbdb051087880444014006a0b30d9a01a58496cdba4875d7ec0c8e9c", func := "wayfinder/wayfinderlaw25.MatchAll", spec := "matchAll", unfollowed := true, recurses := true, apart := false, narrowed := true }
def MatchAllUptoSaid : Prop := matchAllUptoRow.holds Try.pinned (OpenSpec.upto matchAllSpec)

/-- 'wayfinderlaw25.MatchCase', WHERE WHAT IT READS IS OF BULK AT MOST 1048576: true; the input reads as it did. -/
def matchCaseUptoRow : OpenClaim := { program := "ytlmgdogblbigpaa", sum := "41066bcebbdb051087880444014006a0b30d9a01a58496cdba4875d7ec0c8e9c", func := "wayfinder/wayfinderlaw25.MatchCase", spec := "matchCase", unfollowed := true, recurses := true, apart := false, narrowed := true }
def MatchCaseUptoSaid : Prop := matchCaseUptoRow.holds Try.pinned (OpenSpec.upto matchCaseSpec)

/-- 'wayfinderlaw24.AskOwn', WHERE WHAT IT READS IS OF BULK AT MOST 1048576: true; the input reads as it did. -/
def askOwnUptoRow : OpenClaim := { program := "ytlmgdogblbigpaa", sum := "41066bcebbdb051087880444014006a0b30d9a01a58496cdba4875d7ec0c8e9c", func := "wayfinder/wayfinderlaw24.AskOwn", spec := "askOwn", apart := false, narrowed := true }
def AskOwnUptoSaid : Prop := askOwnUptoRow.holds Try.pinned (OpenSpec.upto askOwnSpec)

/-- 'wayfinderlaw13.RdataBack', WHERE WHAT IT READS IS OF BULK AT MOST 1048576: true; the input reads as it did. -/
def rdataBackUptoRow : OpenClaim := { program := "ytlmgdogblbigpaa", sum := "41066bcebbdb051087880444014006a0b30d9a01a58496cdba4875d7ec0c8e9c", func := "wayfinder/wayfinderlaw13.RdataBack", spec := "rdataBack", unfollowed := true, recurses := true, apart := false, narrowed := true }
def RdataBackUptoSaid : Prop := rdataBackUptoRow.holds Try.pinned (OpenSpec.upto rdataBackSpec)

/-- 'wayfinderlaw14.MessageReads', WHERE WHAT IT READS IS OF BULK AT MOST 1048576: true; the input reads as it did. -/
def messageReadsUptoRow : OpenClaim := { program := "ytlmgdogblbigpaa", sum := "41066bcebbdb051087880444014006a0b30d9a01a58496cdba4875d7ec0c8e9c", func := "wayfinder/wayfinderlaw14.MessageReads", spec := "messageReads", unfollowed := true, recurses := true, apart := false, narrowed := true }
def MessageReadsUptoSaid : Prop := messageReadsUptoRow.holds Try.pinned (OpenSpec.upto messageReadsSpec)

/-- 'wayfinderlaw14.MessageBack', WHERE WHAT IT READS IS OF BULK AT MOST 1048576: true; the input reads as it did. -/
def messageBackUptoRow : OpenClaim := { program := "ytlmgdogblbigpaa", sum := "41066bcebbdb051087880444014006a0b30d9a01a58496cdba4875d7ec0c8e9c", func := "wayfinder/wayfinderlaw14.MessageBack", spec := "messageBack", unfollowed := true, recurses := true, apart := false, narrowed := true }
def MessageBackUptoSaid : Prop := messageBackUptoRow.holds Try.pinned (OpenSpec.upto messageBackSpec)

/-- 'wayfinderlaw14.MessageLong', WHERE WHAT IT READS IS OF BULK AT MOST 1048576: true; the input reads as it did. -/
def messageLongUptoRow : OpenClaim := { program := "ytlmgdogblbigpaa", sum := "41066bcebbdb051087880444014006a0b30d9a01a58496cdba4875d7ec0c8e9c", func := "wayfinder/wayfinderlaw14.MessageLong", spec := "messageLong", unfollowed := true, recurses := true, apart := false, narrowed := true }
def MessageLongUptoSaid : Prop := messageLongUptoRow.holds Try.pinned (OpenSpec.upto messageLongSpec)

/-- 'wayfinderlaw14.MessageAgain', WHERE WHAT IT READS IS OF BULK AT MOST 1048576: true; the input reads as it did. -/
def messageAgainUptoRow : OpenClaim := { program := "ytlmgdogblbigpaa", sum := "41066bcebbdb051087880444014006a0b30d9a01a58496cdba4875d7ec0c8e9c", func := "wayfinder/wayfinderlaw14.MessageAgain", spec := "messageAgain", unfollowed := true, recurses := true, apart := false, narrowed := true }
def MessageAgainUptoSaid : Prop := messageAgainUptoRow.holds Try.pinned (OpenSpec.upto messageAgainSpec)

/-- 'wayfinderlaw24.AskBuilds', WHERE WHAT IT READS IS OF BULK AT MOST 1048576: true; the input reads as it did. -/
def askBuildsUptoRow : OpenClaim := { program := "ytlmgdogblbigpaa", sum := "41066bcebbdb051087880444014006a0b30d9a01a58496cdba4875d7ec0c8e9c", func := "wayfinder/wayfinderlaw24.AskBuilds", spec := "askBuilds", unfollowed := true, recurses := true, apart := false, narrowed := true }
def AskBuildsUptoSaid : Prop := askBuildsUptoRow.holds Try.pinned (OpenSpec.upto askBuildsSpec)

end Rows
end Go.Proofs.Ytlmgdogblbigpaa
