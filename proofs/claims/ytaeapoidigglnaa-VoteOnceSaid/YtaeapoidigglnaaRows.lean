/-
  No cell of these rows narrows 'for every input' (looked for: loops, veiled, ifaces, maps, wideKeys, modest, calm, conditions, laid).
  DERIVED. THE GIVEN ROWS OF THIS SEAT. 15 by the template 'for every input the law returns true; each argument reads behind the call as it read before'; 0 by the template 'total and deterministic' (their statements: YtaeapoidigglnaaTotals.lean).
  GIVEN WITH THE SEED: the statements are not yours to turn. If you find one false, say at which input.
  Laid BY PROGRAM, IN A SANDBOX (cutbox-rows.mjs): the forced cells as the released guide's own fill.sh prints them over the translation ae4fef4bf76e385b… (all of the seat's roots in one cut). By AI agents, Wed Nov 11 2026. No macro, syntax, notation, axiom, sorry.
-/
import Derived.Test.YtaeapoidigglnaaChecked
import GoSem.Claim
import GoSem.ClaimJoined
import GoSem.ClaimMapViews
import Derived.JoinedTies
import Derived.KernelRfl
namespace Go.Proofs.Ytaeapoidigglnaa
/- THE CELL 'sum', in the pinned program and in every row, IS THE sha256 OF THE DUMP (.gsa) THAT YtaeapoidigglnaaProg.lean LOADS. Nothing in Lean hashes anything: it is a label: what it is worth is what the hold of that sum in a sandbox is worth. -/
noncomputable def Try.pinned : Pinned := { name := "ytaeapoidigglnaa", sum := "ae4fef4bf76e385be26fe3ab995e74b65113d8370dce0c03f91559db83c9b9f4", checked := Try.checked }
namespace Rows
def none {H : Type} : Left H := { results := [], args := [] }

/-- 'legateelaw12.BallotRuns': WHATEVER THE INPUT: true; the input reads as it did. -/
def ballotRunsSpec : ChangeSpec := { name := "ballotRuns", fn := fun _ => fun
  | [d1, d2] => { results := [.lit (.bool true)], args := [d1, d2] }
  | _ => none }
def ballotRunsRow : OpenClaim := { program := "ytaeapoidigglnaa", sum := "ae4fef4bf76e385be26fe3ab995e74b65113d8370dce0c03f91559db83c9b9f4", func := "legatee/legateelaw12.BallotRuns", spec := "ballotRuns", apart := false }
def BallotRunsSaid : Prop := ballotRunsRow.holds Try.pinned (OpenSpec.ofChange ballotRunsSpec)

/-- ITS FALSE NEIGHBOUR: 'it returns false'. Refute it at one input. -/
def ballotRunsWrong : ChangeSpec := { name := "ballotRuns", fn := fun _ => fun
  | [d1, d2] => { results := [.lit (.bool false)], args := [d1, d2] }
  | _ => none }
def BallotRunsWrongFalsely : Prop := ballotRunsRow.holds Try.pinned (OpenSpec.ofChange ballotRunsWrong)

/-- 'legateelaw12.BallotLess': WHATEVER THE INPUT: true; the input reads as it did. -/
def ballotLessSpec : ChangeSpec := { name := "ballotLess", fn := fun _ => fun
  | [d1, d2, d3] => { results := [.lit (.bool true)], args := [d1, d2, d3] }
  | _ => none }
def ballotLessRow : OpenClaim := { program := "ytaeapoidigglnaa", sum := "ae4fef4bf76e385be26fe3ab995e74b65113d8370dce0c03f91559db83c9b9f4", func := "legatee/legateelaw12.BallotLess", spec := "ballotLess", apart := false }
def BallotLessSaid : Prop := ballotLessRow.holds Try.pinned (OpenSpec.ofChange ballotLessSpec)

/-- ITS FALSE NEIGHBOUR: 'it returns false'. Refute it at one input. -/
def ballotLessWrong : ChangeSpec := { name := "ballotLess", fn := fun _ => fun
  | [d1, d2, d3] => { results := [.lit (.bool false)], args := [d1, d2, d3] }
  | _ => none }
def BallotLessWrongFalsely : Prop := ballotLessRow.holds Try.pinned (OpenSpec.ofChange ballotLessWrong)

/-- 'legateelaw12.BallotVows': WHATEVER THE INPUT: true; the input reads as it did. -/
def ballotVowsSpec : ChangeSpec := { name := "ballotVows", fn := fun _ => fun
  | [d] => { results := [.lit (.bool true)], args := [d] }
  | _ => none }
def ballotVowsRow : OpenClaim := { program := "ytaeapoidigglnaa", sum := "ae4fef4bf76e385be26fe3ab995e74b65113d8370dce0c03f91559db83c9b9f4", func := "legatee/legateelaw12.BallotVows", spec := "ballotVows", apart := false }
def BallotVowsSaid : Prop := ballotVowsRow.holds Try.pinned (OpenSpec.ofChange ballotVowsSpec)

/-- ITS FALSE NEIGHBOUR: 'it returns false'. Refute it at one input. -/
def ballotVowsWrong : ChangeSpec := { name := "ballotVows", fn := fun _ => fun
  | [d] => { results := [.lit (.bool false)], args := [d] }
  | _ => none }
def BallotVowsWrongFalsely : Prop := ballotVowsRow.holds Try.pinned (OpenSpec.ofChange ballotVowsWrong)

/-- 'legateelaw01.NumAdds': WHATEVER THE INPUT: true; the input reads as it did. -/
def numAddsSpec : ChangeSpec := { name := "numAdds", fn := fun _ => fun
  | [d] => { results := [.lit (.bool true)], args := [d] }
  | _ => none }
def numAddsRow : OpenClaim := { program := "ytaeapoidigglnaa", sum := "ae4fef4bf76e385be26fe3ab995e74b65113d8370dce0c03f91559db83c9b9f4", func := "legatee/legateelaw01.NumAdds", spec := "numAdds", apart := false }
def NumAddsSaid : Prop := numAddsRow.holds Try.pinned (OpenSpec.ofChange numAddsSpec)

/-- ITS FALSE NEIGHBOUR: 'it returns false'. Refute it at one input. -/
def numAddsWrong : ChangeSpec := { name := "numAdds", fn := fun _ => fun
  | [d] => { results := [.lit (.bool false)], args := [d] }
  | _ => none }
def NumAddsWrongFalsely : Prop := numAddsRow.holds Try.pinned (OpenSpec.ofChange numAddsWrong)

/-- 'legateelaw01.NumSets': WHATEVER THE INPUT: true; the input reads as it did. -/
def numSetsSpec : ChangeSpec := { name := "numSets", fn := fun _ => fun
  | [d1, d2] => { results := [.lit (.bool true)], args := [d1, d2] }
  | _ => none }
def numSetsRow : OpenClaim := { program := "ytaeapoidigglnaa", sum := "ae4fef4bf76e385be26fe3ab995e74b65113d8370dce0c03f91559db83c9b9f4", func := "legatee/legateelaw01.NumSets", spec := "numSets", apart := false }
def NumSetsSaid : Prop := numSetsRow.holds Try.pinned (OpenSpec.ofChange numSetsSpec)

/-- ITS FALSE NEIGHBOUR: 'it returns false'. Refute it at one input. -/
def numSetsWrong : ChangeSpec := { name := "numSets", fn := fun _ => fun
  | [d1, d2] => { results := [.lit (.bool false)], args := [d1, d2] }
  | _ => none }
def NumSetsWrongFalsely : Prop := numSetsRow.holds Try.pinned (OpenSpec.ofChange numSetsWrong)

/-- 'legateelaw01.NumTurns': WHATEVER THE INPUT: true; the input reads as it did. -/
def numTurnsSpec : ChangeSpec := { name := "numTurns", fn := fun _ => fun
  | [d1, d2] => { results := [.lit (.bool true)], args := [d1, d2] }
  | _ => none }
def numTurnsRow : OpenClaim := { program := "ytaeapoidigglnaa", sum := "ae4fef4bf76e385be26fe3ab995e74b65113d8370dce0c03f91559db83c9b9f4", func := "legatee/legateelaw01.NumTurns", spec := "numTurns", apart := false }
def NumTurnsSaid : Prop := numTurnsRow.holds Try.pinned (OpenSpec.ofChange numTurnsSpec)

/-- ITS FALSE NEIGHBOUR: 'it returns false'. Refute it at one input. -/
def numTurnsWrong : ChangeSpec := { name := "numTurns", fn := fun _ => fun
  | [d1, d2] => { results := [.lit (.bool false)], args := [d1, d2] }
  | _ => none }
def NumTurnsWrongFalsely : Prop := numTurnsRow.holds Try.pinned (OpenSpec.ofChange numTurnsWrong)

/-- 'legateelaw01.NumHalves': WHATEVER THE INPUT: true; the input reads as it did. -/
def numHalvesSpec : ChangeSpec := { name := "numHalves", fn := fun _ => fun
  | [d1, d2, d3] => { results := [.lit (.bool true)], args := [d1, d2, d3] }
  | _ => none }
def numHalvesRow : OpenClaim := { program := "ytaeapoidigglnaa", sum := "ae4fef4bf76e385be26fe3ab995e74b65113d8370dce0c03f91559db83c9b9f4", func := "legatee/legateelaw01.NumHalves", spec := "numHalves", apart := false }
def NumHalvesSaid : Prop := numHalvesRow.holds Try.pinned (OpenSpec.ofChange numHalvesSpec)

/-- ITS FALSE NEIGHBOUR: 'it returns false'. Refute it at one input. -/
def numHalvesWrong : ChangeSpec := { name := "numHalves", fn := fun _ => fun
  | [d1, d2, d3] => { results := [.lit (.bool false)], args := [d1, d2, d3] }
  | _ => none }
def NumHalvesWrongFalsely : Prop := numHalvesRow.holds Try.pinned (OpenSpec.ofChange numHalvesWrong)

/-- 'legateelaw01.NumSubs': WHATEVER THE INPUT: true; the input reads as it did. -/
def numSubsSpec : ChangeSpec := { name := "numSubs", fn := fun _ => fun
  | [d1, d2] => { results := [.lit (.bool true)], args := [d1, d2] }
  | _ => none }
def numSubsRow : OpenClaim := { program := "ytaeapoidigglnaa", sum := "ae4fef4bf76e385be26fe3ab995e74b65113d8370dce0c03f91559db83c9b9f4", func := "legatee/legateelaw01.NumSubs", spec := "numSubs", apart := false }
def NumSubsSaid : Prop := numSubsRow.holds Try.pinned (OpenSpec.ofChange numSubsSpec)

/-- ITS FALSE NEIGHBOUR: 'it returns false'. Refute it at one input. -/
def numSubsWrong : ChangeSpec := { name := "numSubs", fn := fun _ => fun
  | [d1, d2] => { results := [.lit (.bool false)], args := [d1, d2] }
  | _ => none }
def NumSubsWrongFalsely : Prop := numSubsRow.holds Try.pinned (OpenSpec.ofChange numSubsWrong)

/-- 'legateelaw13.VoteCounts': WHATEVER THE INPUT: true; the input reads as it did. -/
def voteCountsSpec : ChangeSpec := { name := "voteCounts", fn := fun _ => fun
  | [d1, d2] => { results := [.lit (.bool true)], args := [d1, d2] }
  | _ => none }
def voteCountsRow : OpenClaim := { program := "ytaeapoidigglnaa", sum := "ae4fef4bf76e385be26fe3ab995e74b65113d8370dce0c03f91559db83c9b9f4", func := "legatee/legateelaw13.VoteCounts", spec := "voteCounts", apart := false }
def VoteCountsSaid : Prop := voteCountsRow.holds Try.pinned (OpenSpec.ofChange voteCountsSpec)

/-- ITS FALSE NEIGHBOUR: 'it returns false'. Refute it at one input. -/
def voteCountsWrong : ChangeSpec := { name := "voteCounts", fn := fun _ => fun
  | [d1, d2] => { results := [.lit (.bool false)], args := [d1, d2] }
  | _ => none }
def VoteCountsWrongFalsely : Prop := voteCountsRow.holds Try.pinned (OpenSpec.ofChange voteCountsWrong)

/-- 'legateelaw11.ViewHeirs': WHATEVER THE INPUT: true; the input reads as it did. -/
def viewHeirsSpec : ChangeSpec := { name := "viewHeirs", fn := fun _ => fun
  | [d] => { results := [.lit (.bool true)], args := [d] }
  | _ => none }
def viewHeirsRow : OpenClaim := { program := "ytaeapoidigglnaa", sum := "ae4fef4bf76e385be26fe3ab995e74b65113d8370dce0c03f91559db83c9b9f4", func := "legatee/legateelaw11.ViewHeirs", spec := "viewHeirs", apart := false }
def ViewHeirsSaid : Prop := viewHeirsRow.holds Try.pinned (OpenSpec.ofChange viewHeirsSpec)

/-- ITS FALSE NEIGHBOUR: 'it returns false'. Refute it at one input. -/
def viewHeirsWrong : ChangeSpec := { name := "viewHeirs", fn := fun _ => fun
  | [d] => { results := [.lit (.bool false)], args := [d] }
  | _ => none }
def ViewHeirsWrongFalsely : Prop := viewHeirsRow.holds Try.pinned (OpenSpec.ofChange viewHeirsWrong)

/-- 'legateelaw11.ViewFew': WHATEVER THE INPUT: true; the input reads as it did. -/
def viewFewSpec : ChangeSpec := { name := "viewFew", fn := fun _ => fun
  | [d] => { results := [.lit (.bool true)], args := [d] }
  | _ => none }
def viewFewRow : OpenClaim := { program := "ytaeapoidigglnaa", sum := "ae4fef4bf76e385be26fe3ab995e74b65113d8370dce0c03f91559db83c9b9f4", func := "legatee/legateelaw11.ViewFew", spec := "viewFew", apart := false }
def ViewFewSaid : Prop := viewFewRow.holds Try.pinned (OpenSpec.ofChange viewFewSpec)

/-- ITS FALSE NEIGHBOUR: 'it returns false'. Refute it at one input. -/
def viewFewWrong : ChangeSpec := { name := "viewFew", fn := fun _ => fun
  | [d] => { results := [.lit (.bool false)], args := [d] }
  | _ => none }
def ViewFewWrongFalsely : Prop := viewFewRow.holds Try.pinned (OpenSpec.ofChange viewFewWrong)

/-- 'legateelaw11.ViewNexts': WHATEVER THE INPUT: true; the input reads as it did. -/
def viewNextsSpec : ChangeSpec := { name := "viewNexts", fn := fun _ => fun
  | [d1, d2] => { results := [.lit (.bool true)], args := [d1, d2] }
  | _ => none }
def viewNextsRow : OpenClaim := { program := "ytaeapoidigglnaa", sum := "ae4fef4bf76e385be26fe3ab995e74b65113d8370dce0c03f91559db83c9b9f4", func := "legatee/legateelaw11.ViewNexts", spec := "viewNexts", unfollowed := true, recurses := true, apart := false }
def ViewNextsSaid : Prop := viewNextsRow.holds Try.pinned (OpenSpec.ofChange viewNextsSpec)

/-- ITS FALSE NEIGHBOUR: 'it returns false'. Refute it at one input. -/
def viewNextsWrong : ChangeSpec := { name := "viewNexts", fn := fun _ => fun
  | [d1, d2] => { results := [.lit (.bool false)], args := [d1, d2] }
  | _ => none }
def ViewNextsWrongFalsely : Prop := viewNextsRow.holds Try.pinned (OpenSpec.ofChange viewNextsWrong)

/-- 'legateelaw11.ViewMajors': WHATEVER THE INPUT: true; the input reads as it did. -/
def viewMajorsSpec : ChangeSpec := { name := "viewMajors", fn := fun _ => fun
  | [d1, d2, d3] => { results := [.lit (.bool true)], args := [d1, d2, d3] }
  | _ => none }
def viewMajorsRow : OpenClaim := { program := "ytaeapoidigglnaa", sum := "ae4fef4bf76e385be26fe3ab995e74b65113d8370dce0c03f91559db83c9b9f4", func := "legatee/legateelaw11.ViewMajors", spec := "viewMajors", apart := false }
def ViewMajorsSaid : Prop := viewMajorsRow.holds Try.pinned (OpenSpec.ofChange viewMajorsSpec)

/-- ITS FALSE NEIGHBOUR: 'it returns false'. Refute it at one input. -/
def viewMajorsWrong : ChangeSpec := { name := "viewMajors", fn := fun _ => fun
  | [d1, d2, d3] => { results := [.lit (.bool false)], args := [d1, d2, d3] }
  | _ => none }
def ViewMajorsWrongFalsely : Prop := viewMajorsRow.holds Try.pinned (OpenSpec.ofChange viewMajorsWrong)

/-- 'legateelaw13.VoteOthers': WHATEVER THE INPUT: true; the input reads as it did. -/
def voteOthersSpec : ChangeSpec := { name := "voteOthers", fn := fun _ => fun
  | [d1, d2, d3] => { results := [.lit (.bool true)], args := [d1, d2, d3] }
  | _ => none }
def voteOthersRow : OpenClaim := { program := "ytaeapoidigglnaa", sum := "ae4fef4bf76e385be26fe3ab995e74b65113d8370dce0c03f91559db83c9b9f4", func := "legatee/legateelaw13.VoteOthers", spec := "voteOthers", apart := false }
def VoteOthersSaid : Prop := voteOthersRow.holds Try.pinned (OpenSpec.ofChange voteOthersSpec)

/-- ITS FALSE NEIGHBOUR: 'it returns false'. Refute it at one input. -/
def voteOthersWrong : ChangeSpec := { name := "voteOthers", fn := fun _ => fun
  | [d1, d2, d3] => { results := [.lit (.bool false)], args := [d1, d2, d3] }
  | _ => none }
def VoteOthersWrongFalsely : Prop := voteOthersRow.holds Try.pinned (OpenSpec.ofChange voteOthersWrong)

/-- 'legateelaw13.VoteOnce': WHATEVER THE INPUT: true; the input reads as it did. -/
def voteOnceSpec : ChangeSpec := { name := "voteOnce", fn := fun _ => fun
  | [d1, d2] => { results := [.lit (.bool true)], args := [d1, d2] }
  | _ => none }
def voteOnceRow : OpenClaim := { program := "ytaeapoidigglnaa", sum := "ae4fef4bf76e385be26fe3ab995e74b65113d8370dce0c03f91559db83c9b9f4", func := "legatee/legateelaw13.VoteOnce", spec := "voteOnce", apart := false }
def VoteOnceSaid : Prop := voteOnceRow.holds Try.pinned (OpenSpec.ofChange voteOnceSpec)

/-- ITS FALSE NEIGHBOUR: 'it returns false'. Refute it at one input. -/
def voteOnceWrong : ChangeSpec := { name := "voteOnce", fn := fun _ => fun
  | [d1, d2] => { results := [.lit (.bool false)], args := [d1, d2] }
  | _ => none }
def VoteOnceWrongFalsely : Prop := voteOnceRow.holds Try.pinned (OpenSpec.ofChange voteOnceWrong)

/- THE SECOND FORM. 'bulk': how many values and letters a reading holds, each counted each time it is reached (what is shared counts as often as it is met; a slice's spare places count too). A statement '..UptoSaid' is the law's where the arguments, and the package variables that the reading takes, are together of bulk at most 1048576: NARROWER than '..Said'. Prove '..Said' where nothing that the law and all that it calls make is longer than what came in: it says more and counts as full. Else prove '..UptoSaid'. A law counts once. -/
mutual
def uptoBulk {H : Type} : DataW H → Nat
  | .lit (.string bytes) => bytes.length + 1
  | .lit _ => 1
  | .nil => 1
  | .ptr d => uptoBulk d + 1
  | .slice elems spare => uptoBulkAll elems + uptoBulkAll spare + 1
  | .agg parts => uptoBulkAll parts + 1
  | .iface _ d => uptoBulk d + 1
  | .map entries => uptoBulkEntries entries + 1
  | .held _ => 1
def uptoBulkAll {H : Type} : List (DataW H) → Nat
  | [] => 0
  | d :: r => uptoBulk d + uptoBulkAll r
def uptoBulkEntries {H : Type} : List (Lit × DataW H) → Nat
  | [] => 0
  | x :: r => uptoBulkEntry x + uptoBulkEntries r
def uptoBulkEntry {H : Type} : Lit × DataW H → Nat
  | (.string bytes, d) => bytes.length + uptoBulk d + 1
  | (_, d) => uptoBulk d + 1
 end
def uptoSmall : (H : Type) → List (DataW H) → Bool := fun _ ds => decide (uptoBulkAll ds ≤ 1048576)
def OpenSpec.upto (s : _root_.Go.ChangeSpec) : _root_.Go.OpenSpec := { _root_.Go.OpenSpec.ofChange s with cond := some uptoSmall }

/-- 'legateelaw12.BallotRuns', WHERE WHAT IT READS IS OF BULK AT MOST 1048576: true; the input reads as it did. -/
def ballotRunsUptoRow : OpenClaim := { program := "ytaeapoidigglnaa", sum := "ae4fef4bf76e385be26fe3ab995e74b65113d8370dce0c03f91559db83c9b9f4", func := "legatee/legateelaw12.BallotRuns", spec := "ballotRuns", apart := false, narrowed := true }
def BallotRunsUptoSaid : Prop := ballotRunsUptoRow.holds Try.pinned (OpenSpec.upto ballotRunsSpec)

/-- 'legateelaw12.BallotLess', WHERE WHAT IT READS IS OF BULK AT MOST 1048576: true; the input reads as it did. -/
def ballotLessUptoRow : OpenClaim := { program := "ytaeapoidigglnaa", sum := "ae4fef4bf76e385be26fe3ab995e74b65113d8370dce0c03f91559db83c9b9f4", func := "legatee/legateelaw12.BallotLess", spec := "ballotLess", apart := false, narrowed := true }
def BallotLessUptoSaid : Prop := ballotLessUptoRow.holds Try.pinned (OpenSpec.upto ballotLessSpec)

/-- 'legateelaw12.BallotVows', WHERE WHAT IT READS IS OF BULK AT MOST 1048576: true; the input reads as it did. -/
def ballotVowsUptoRow : OpenClaim := { program := "ytaeapoidigglnaa", sum := "ae4fef4bf76e385be26fe3ab995e74b65113d8370dce0c03f91559db83c9b9f4", func := "legatee/legateelaw12.BallotVows", spec := "ballotVows", apart := false, narrowed := true }
def BallotVowsUptoSaid : Prop := ballotVowsUptoRow.holds Try.pinned (OpenSpec.upto ballotVowsSpec)

/-- 'legateelaw01.NumAdds', WHERE WHAT IT READS IS OF BULK AT MOST 1048576: true; the input reads as it did. -/
def numAddsUptoRow : OpenClaim := { program := "ytaeapoidigglnaa", sum := "ae4fef4bf76e385be26fe3ab995e74b65113d8370dce0c03f91559db83c9b9f4", func := "legatee/legateelaw01.NumAdds", spec := "numAdds", apart := false, narrowed := true }
def NumAddsUptoSaid : Prop := numAddsUptoRow.holds Try.pinned (OpenSpec.upto numAddsSpec)

/-- 'legateelaw01.NumSets', WHERE WHAT IT READS IS OF BULK AT MOST 1048576: true; the input reads as it did. -/
def numSetsUptoRow : OpenClaim := { program := "ytaeapoidigglnaa", sum := "ae4fef4bf76e385be26fe3ab995e74b65113d8370dce0c03f91559db83c9b9f4", func := "legatee/legateelaw01.NumSets", spec := "numSets", apart := false, narrowed := true }
def NumSetsUptoSaid : Prop := numSetsUptoRow.holds Try.pinned (OpenSpec.upto numSetsSpec)

/-- 'legateelaw01.NumTurns', WHERE WHAT IT READS IS OF BULK AT MOST 1048576: true; the input reads as it did. -/
def numTurnsUptoRow : OpenClaim := { program := "ytaeapoidigglnaa", sum := "ae4fef4bf76e385be26fe3ab995e74b65113d8370dce0c03f91559db83c9b9f4", func := "legatee/legateelaw01.NumTurns", spec := "numTurns", apart := false, narrowed := true }
def NumTurnsUptoSaid : Prop := numTurnsUptoRow.holds Try.pinned (OpenSpec.upto numTurnsSpec)

/-- 'legateelaw01.NumHalves', WHERE WHAT IT READS IS OF BULK AT MOST 1048576: true; the input reads as it did. -/
def numHalvesUptoRow : OpenClaim := { program := "ytaeapoidigglnaa", sum := "ae4fef4bf76e385be26fe3ab995e74b65113d8370dce0c03f91559db83c9b9f4", func := "legatee/legateelaw01.NumHalves", spec := "numHalves", apart := false, narrowed := true }
def NumHalvesUptoSaid : Prop := numHalvesUptoRow.holds Try.pinned (OpenSpec.upto numHalvesSpec)

/-- 'legateelaw01.NumSubs', WHERE WHAT IT READS IS OF BULK AT MOST 1048576: true; the input reads as it did. -/
def numSubsUptoRow : OpenClaim := { program := "ytaeapoidigglnaa", sum := "ae4fef4bf76e385be26fe3ab995e74b65113d8370dce0c03f91559db83c9b9f4", func := "legatee/legateelaw01.NumSubs", spec := "numSubs", apart := false, narrowed := true }
def NumSubsUptoSaid : Prop := numSubsUptoRow.holds Try.pinned (OpenSpec.upto numSubsSpec)

/-- 'legateelaw13.VoteCounts', WHERE WHAT IT READS IS OF BULK AT MOST 1048576: true; the input reads as it did. -/
def voteCountsUptoRow : OpenClaim := { program := "ytaeapoidigglnaa", sum := "ae4fef4bf76e385be26fe3ab995e74b65113d8370dce0c03f91559db83c9b9f4", func := "legatee/legateelaw13.VoteCounts", spec := "voteCounts", apart := false, narrowed := true }
def VoteCountsUptoSaid : Prop := voteCountsUptoRow.holds Try.pinned (OpenSpec.upto voteCountsSpec)

/-- 'legateelaw11.ViewHeirs', WHERE WHAT IT READS IS OF BULK AT MOST 1048576: true; the input reads as it did. -/
def viewHeirsUptoRow : OpenClaim := { program := "ytaeapoidigglnaa", sum := "ae4fef4bf76e385be26fe3ab995e74b65113d8370dce0c03f91559db83c9b9f4", func := "legatee/legateelaw11.ViewHeirs", spec := "viewHeirs", apart := false, narrowed := true }
def ViewHeirsUptoSaid : Prop := viewHeirsUptoRow.holds Try.pinned (OpenSpec.upto viewHeirsSpec)

/-- 'legateelaw11.ViewFew', WHERE WHAT IT READS IS OF BULK AT MOST 1048576: true; the input reads as it did. -/
def viewFewUptoRow : OpenClaim := { program := "ytaeapoidigglnaa", sum := "ae4fef4bf76e385be26fe3ab995e74b65113d8370dce0c03f91559db83c9b9f4", func := "legatee/legateelaw11.ViewFew", spec := "viewFew", apart := false, narrowed := true }
def ViewFewUptoSaid : Prop := viewFewUptoRow.holds Try.pinned (OpenSpec.upto viewFewSpec)

/-- 'legateelaw11.ViewNexts', WHERE WHAT IT READS IS OF BULK AT MOST 1048576: true; the input reads as it did. -/
def viewNextsUptoRow : OpenClaim := { program := "ytaeapoidigglnaa", sum := "ae4fef4bf76e385be26fe3ab995e74b65113d8370dce0c03f91559db83c9b9f4", func := "legatee/legateelaw11.ViewNexts", spec := "viewNexts", unfollowed := true, recurses := true, apart := false, narrowed := true }
def ViewNextsUptoSaid : Prop := viewNextsUptoRow.holds Try.pinned (OpenSpec.upto viewNextsSpec)

/-- 'legateelaw11.ViewMajors', WHERE WHAT IT READS IS OF BULK AT MOST 1048576: true; the input reads as it did. -/
def viewMajorsUptoRow : OpenClaim := { program := "ytaeapoidigglnaa", sum := "ae4fef4bf76e385be26fe3ab995e74b65113d8370dce0c03f91559db83c9b9f4", func := "legatee/legateelaw11.ViewMajors", spec := "viewMajors", apart := false, narrowed := true }
def ViewMajorsUptoSaid : Prop := viewMajorsUptoRow.holds Try.pinned (OpenSpec.upto viewMajorsSpec)

/-- 'legateelaw13.VoteOthers', WHERE WHAT IT READS IS OF BULK AT MOST 1048576: true; the input reads as it did. -/
def voteOthersUptoRow : OpenClaim := { program := "ytaeapoidigglnaa", sum := "ae4fef4bf76e385be26fe3ab995e74b65113d8370dce0c03f91559db83c9b9f4", func := "legatee/legateelaw13.VoteOthers", spec := "voteOthers", apart := false, narrowed := true }
def VoteOthersUptoSaid : Prop := voteOthersUptoRow.holds Try.pinned (OpenSpec.upto voteOthersSpec)

/-- 'legateelaw13.VoteOnce', WHERE WHAT IT READS IS OF BULK AT MOST 1048576: true; the input reads as it did. -/
def voteOnceUptoRow : OpenClaim := { program := "ytaeapoidigglnaa", sum := "ae4fef4bf76e385be26fe3ab995e74b65113d8370dce0c03f91559db83c9b9f4", func := "legatee/legateelaw13.VoteOnce", spec := "voteOnce", apart := false, narrowed := true }
def VoteOnceUptoSaid : Prop := voteOnceUptoRow.holds Try.pinned (OpenSpec.upto voteOnceSpec)

end Rows
end Go.Proofs.Ytaeapoidigglnaa
