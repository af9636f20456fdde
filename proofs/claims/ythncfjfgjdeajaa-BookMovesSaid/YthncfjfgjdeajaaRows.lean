/-
  No cell of these rows narrows 'for every input' (looked for: loops, veiled, ifaces, maps, wideKeys, modest, calm, conditions, laid).
  DERIVED. THE GIVEN ROWS OF THIS SEAT. 13 by the template 'for every input the law returns true; each argument reads behind the call as it read before'; 0 by the template 'total and deterministic' (their statements: YthncfjfgjdeajaaTotals.lean).
  GIVEN WITH THE SEED: the statements are not yours to turn. If you find one false, say at which input.
  Laid BY PROGRAM, IN A SANDBOX (cutbox-rows.mjs): the forced cells as the released guide's own fill.sh prints them over the translation 266a736c86269451… (all of the seat's roots in one cut). By AI agents, Wed Nov 11 2026. No macro, syntax, notation, axiom, sorry.
-/
import Derived.Test.YthncfjfgjdeajaaChecked
import GoSem.Claim
import GoSem.ClaimJoined
import GoSem.ClaimMapViews
import Derived.JoinedTies
import Derived.KernelRfl
namespace Go.Proofs.Ythncfjfgjdeajaa
/- THE CELL 'sum', in the pinned program and in every row, IS THE sha256 OF THE DUMP (.gsa) THAT YthncfjfgjdeajaaProg.lean LOADS. Nothing in Lean hashes anything: it is a label: what it is worth is what the hold of that sum in a sandbox is worth. -/
noncomputable def Try.pinned : Pinned := { name := "ythncfjfgjdeajaa", sum := "266a736c862694513b8b7033bfeb378225035657e20701fdc6b36ea9d6ab23d4", checked := Try.checked }
namespace Rows
def none {H : Type} : Left H := { results := [], args := [] }

/-- 'legateelaw04.RowOthers': WHATEVER THE INPUT: true; the input reads as it did. -/
def rowOthersSpec : ChangeSpec := { name := "rowOthers", fn := fun _ => fun
  | [d1, d2, d3] => { results := [.lit (.bool true)], args := [d1, d2, d3] }
  | _ => none }
def rowOthersRow : OpenClaim := { program := "ythncfjfgjdeajaa", sum := "266a736c862694513b8b7033bfeb378225035657e20701fdc6b36ea9d6ab23d4", func := "legatee/legateelaw04.RowOthers", spec := "rowOthers", unfollowed := true, recurses := true, apart := false }
def RowOthersSaid : Prop := rowOthersRow.holds Try.pinned (OpenSpec.ofChange rowOthersSpec)

/-- ITS FALSE NEIGHBOUR: 'it returns false'. Refute it at one input. -/
def rowOthersWrong : ChangeSpec := { name := "rowOthers", fn := fun _ => fun
  | [d1, d2, d3] => { results := [.lit (.bool false)], args := [d1, d2, d3] }
  | _ => none }
def RowOthersWrongFalsely : Prop := rowOthersRow.holds Try.pinned (OpenSpec.ofChange rowOthersWrong)

/-- 'legateelaw04.RowChains': WHATEVER THE INPUT: true; the input reads as it did. -/
def rowChainsSpec : ChangeSpec := { name := "rowChains", fn := fun _ => fun
  | [d1, d2, d3] => { results := [.lit (.bool true)], args := [d1, d2, d3] }
  | _ => none }
def rowChainsRow : OpenClaim := { program := "ythncfjfgjdeajaa", sum := "266a736c862694513b8b7033bfeb378225035657e20701fdc6b36ea9d6ab23d4", func := "legatee/legateelaw04.RowChains", spec := "rowChains", unfollowed := true, recurses := true, apart := false }
def RowChainsSaid : Prop := rowChainsRow.holds Try.pinned (OpenSpec.ofChange rowChainsSpec)

/-- ITS FALSE NEIGHBOUR: 'it returns false'. Refute it at one input. -/
def rowChainsWrong : ChangeSpec := { name := "rowChains", fn := fun _ => fun
  | [d1, d2, d3] => { results := [.lit (.bool false)], args := [d1, d2, d3] }
  | _ => none }
def RowChainsWrongFalsely : Prop := rowChainsRow.holds Try.pinned (OpenSpec.ofChange rowChainsWrong)

/-- 'legateelaw04.RowOwns': WHATEVER THE INPUT: true; the input reads as it did. -/
def rowOwnsSpec : ChangeSpec := { name := "rowOwns", fn := fun _ => fun
  | [d1, d2, d3] => { results := [.lit (.bool true)], args := [d1, d2, d3] }
  | _ => none }
def rowOwnsRow : OpenClaim := { program := "ythncfjfgjdeajaa", sum := "266a736c862694513b8b7033bfeb378225035657e20701fdc6b36ea9d6ab23d4", func := "legatee/legateelaw04.RowOwns", spec := "rowOwns", unfollowed := true, recurses := true, apart := false }
def RowOwnsSaid : Prop := rowOwnsRow.holds Try.pinned (OpenSpec.ofChange rowOwnsSpec)

/-- ITS FALSE NEIGHBOUR: 'it returns false'. Refute it at one input. -/
def rowOwnsWrong : ChangeSpec := { name := "rowOwns", fn := fun _ => fun
  | [d1, d2, d3] => { results := [.lit (.bool false)], args := [d1, d2, d3] }
  | _ => none }
def RowOwnsWrongFalsely : Prop := rowOwnsRow.holds Try.pinned (OpenSpec.ofChange rowOwnsWrong)

/-- 'legateelaw04.RowRights': WHATEVER THE INPUT: true; the input reads as it did. -/
def rowRightsSpec : ChangeSpec := { name := "rowRights", fn := fun _ => fun
  | [d] => { results := [.lit (.bool true)], args := [d] }
  | _ => none }
def rowRightsRow : OpenClaim := { program := "ythncfjfgjdeajaa", sum := "266a736c862694513b8b7033bfeb378225035657e20701fdc6b36ea9d6ab23d4", func := "legatee/legateelaw04.RowRights", spec := "rowRights", unfollowed := true, recurses := true, apart := false }
def RowRightsSaid : Prop := rowRightsRow.holds Try.pinned (OpenSpec.ofChange rowRightsSpec)

/-- ITS FALSE NEIGHBOUR: 'it returns false'. Refute it at one input. -/
def rowRightsWrong : ChangeSpec := { name := "rowRights", fn := fun _ => fun
  | [d] => { results := [.lit (.bool false)], args := [d] }
  | _ => none }
def RowRightsWrongFalsely : Prop := rowRightsRow.holds Try.pinned (OpenSpec.ofChange rowRightsWrong)

/-- 'legateelaw04.RowInherits': WHATEVER THE INPUT: true; the input reads as it did. -/
def rowInheritsSpec : ChangeSpec := { name := "rowInherits", fn := fun _ => fun
  | [d1, d2, d3] => { results := [.lit (.bool true)], args := [d1, d2, d3] }
  | _ => none }
def rowInheritsRow : OpenClaim := { program := "ythncfjfgjdeajaa", sum := "266a736c862694513b8b7033bfeb378225035657e20701fdc6b36ea9d6ab23d4", func := "legatee/legateelaw04.RowInherits", spec := "rowInherits", unfollowed := true, recurses := true, apart := false }
def RowInheritsSaid : Prop := rowInheritsRow.holds Try.pinned (OpenSpec.ofChange rowInheritsSpec)

/-- ITS FALSE NEIGHBOUR: 'it returns false'. Refute it at one input. -/
def rowInheritsWrong : ChangeSpec := { name := "rowInherits", fn := fun _ => fun
  | [d1, d2, d3] => { results := [.lit (.bool false)], args := [d1, d2, d3] }
  | _ => none }
def RowInheritsWrongFalsely : Prop := rowInheritsRow.holds Try.pinned (OpenSpec.ofChange rowInheritsWrong)

/-- 'legateelaw04.RowChanges': WHATEVER THE INPUT: true; the input reads as it did. -/
def rowChangesSpec : ChangeSpec := { name := "rowChanges", fn := fun _ => fun
  | [d1, d2, d3] => { results := [.lit (.bool true)], args := [d1, d2, d3] }
  | _ => none }
def rowChangesRow : OpenClaim := { program := "ythncfjfgjdeajaa", sum := "266a736c862694513b8b7033bfeb378225035657e20701fdc6b36ea9d6ab23d4", func := "legatee/legateelaw04.RowChanges", spec := "rowChanges", unfollowed := true, recurses := true, apart := false }
def RowChangesSaid : Prop := rowChangesRow.holds Try.pinned (OpenSpec.ofChange rowChangesSpec)

/-- ITS FALSE NEIGHBOUR: 'it returns false'. Refute it at one input. -/
def rowChangesWrong : ChangeSpec := { name := "rowChanges", fn := fun _ => fun
  | [d1, d2, d3] => { results := [.lit (.bool false)], args := [d1, d2, d3] }
  | _ => none }
def RowChangesWrongFalsely : Prop := rowChangesRow.holds Try.pinned (OpenSpec.ofChange rowChangesWrong)

/-- 'legateelaw14.MirrorRuns': WHATEVER THE INPUT: true; the input reads as it did. -/
def mirrorRunsSpec : ChangeSpec := { name := "mirrorRuns", fn := fun _ => fun
  | [d] => { results := [.lit (.bool true)], args := [d] }
  | _ => none }
def mirrorRunsRow : OpenClaim := { program := "ythncfjfgjdeajaa", sum := "266a736c862694513b8b7033bfeb378225035657e20701fdc6b36ea9d6ab23d4", func := "legatee/legateelaw14.MirrorRuns", spec := "mirrorRuns", unfollowed := true, recurses := true, apart := false }
def MirrorRunsSaid : Prop := mirrorRunsRow.holds Try.pinned (OpenSpec.ofChange mirrorRunsSpec)

/-- ITS FALSE NEIGHBOUR: 'it returns false'. Refute it at one input. -/
def mirrorRunsWrong : ChangeSpec := { name := "mirrorRuns", fn := fun _ => fun
  | [d] => { results := [.lit (.bool false)], args := [d] }
  | _ => none }
def MirrorRunsWrongFalsely : Prop := mirrorRunsRow.holds Try.pinned (OpenSpec.ofChange mirrorRunsWrong)

/-- 'legateelaw14.MirrorApart': WHATEVER THE INPUT: true; the input reads as it did. -/
def mirrorApartSpec : ChangeSpec := { name := "mirrorApart", fn := fun _ => fun
  | [d1, d2, d3] => { results := [.lit (.bool true)], args := [d1, d2, d3] }
  | _ => none }
def mirrorApartRow : OpenClaim := { program := "ythncfjfgjdeajaa", sum := "266a736c862694513b8b7033bfeb378225035657e20701fdc6b36ea9d6ab23d4", func := "legatee/legateelaw14.MirrorApart", spec := "mirrorApart", unfollowed := true, recurses := true, apart := false }
def MirrorApartSaid : Prop := mirrorApartRow.holds Try.pinned (OpenSpec.ofChange mirrorApartSpec)

/-- ITS FALSE NEIGHBOUR: 'it returns false'. Refute it at one input. -/
def mirrorApartWrong : ChangeSpec := { name := "mirrorApart", fn := fun _ => fun
  | [d1, d2, d3] => { results := [.lit (.bool false)], args := [d1, d2, d3] }
  | _ => none }
def MirrorApartWrongFalsely : Prop := mirrorApartRow.holds Try.pinned (OpenSpec.ofChange mirrorApartWrong)

/-- 'legateelaw05.BookCounts': WHATEVER THE INPUT: true; the input reads as it did. -/
def bookCountsSpec : ChangeSpec := { name := "bookCounts", fn := fun _ => fun
  | [d1, d2, d3] => { results := [.lit (.bool true)], args := [d1, d2, d3] }
  | _ => none }
def bookCountsRow : OpenClaim := { program := "ythncfjfgjdeajaa", sum := "266a736c862694513b8b7033bfeb378225035657e20701fdc6b36ea9d6ab23d4", func := "legatee/legateelaw05.BookCounts", spec := "bookCounts", unfollowed := true, recurses := true, apart := false }
def BookCountsSaid : Prop := bookCountsRow.holds Try.pinned (OpenSpec.ofChange bookCountsSpec)

/-- ITS FALSE NEIGHBOUR: 'it returns false'. Refute it at one input. -/
def bookCountsWrong : ChangeSpec := { name := "bookCounts", fn := fun _ => fun
  | [d1, d2, d3] => { results := [.lit (.bool false)], args := [d1, d2, d3] }
  | _ => none }
def BookCountsWrongFalsely : Prop := bookCountsRow.holds Try.pinned (OpenSpec.ofChange bookCountsWrong)

/-- 'legateelaw05.BookSums': WHATEVER THE INPUT: true; the input reads as it did. -/
def bookSumsSpec : ChangeSpec := { name := "bookSums", fn := fun _ => fun
  | [d1, d2] => { results := [.lit (.bool true)], args := [d1, d2] }
  | _ => none }
def bookSumsRow : OpenClaim := { program := "ythncfjfgjdeajaa", sum := "266a736c862694513b8b7033bfeb378225035657e20701fdc6b36ea9d6ab23d4", func := "legatee/legateelaw05.BookSums", spec := "bookSums", unfollowed := true, recurses := true, apart := false }
def BookSumsSaid : Prop := bookSumsRow.holds Try.pinned (OpenSpec.ofChange bookSumsSpec)

/-- ITS FALSE NEIGHBOUR: 'it returns false'. Refute it at one input. -/
def bookSumsWrong : ChangeSpec := { name := "bookSums", fn := fun _ => fun
  | [d1, d2] => { results := [.lit (.bool false)], args := [d1, d2] }
  | _ => none }
def BookSumsWrongFalsely : Prop := bookSumsRow.holds Try.pinned (OpenSpec.ofChange bookSumsWrong)

/-- 'legateelaw05.BookMoves': WHATEVER THE INPUT: true; the input reads as it did. -/
def bookMovesSpec : ChangeSpec := { name := "bookMoves", fn := fun _ => fun
  | [d1, d2] => { results := [.lit (.bool true)], args := [d1, d2] }
  | _ => none }
def bookMovesRow : OpenClaim := { program := "ythncfjfgjdeajaa", sum := "266a736c862694513b8b7033bfeb378225035657e20701fdc6b36ea9d6ab23d4", func := "legatee/legateelaw05.BookMoves", spec := "bookMoves", unfollowed := true, recurses := true, apart := false }
def BookMovesSaid : Prop := bookMovesRow.holds Try.pinned (OpenSpec.ofChange bookMovesSpec)

/-- ITS FALSE NEIGHBOUR: 'it returns false'. Refute it at one input. -/
def bookMovesWrong : ChangeSpec := { name := "bookMoves", fn := fun _ => fun
  | [d1, d2] => { results := [.lit (.bool false)], args := [d1, d2] }
  | _ => none }
def BookMovesWrongFalsely : Prop := bookMovesRow.holds Try.pinned (OpenSpec.ofChange bookMovesWrong)

/-- 'legateelaw05.BookMerges': WHATEVER THE INPUT: true; the input reads as it did. -/
def bookMergesSpec : ChangeSpec := { name := "bookMerges", fn := fun _ => fun
  | [d1, d2] => { results := [.lit (.bool true)], args := [d1, d2] }
  | _ => none }
def bookMergesRow : OpenClaim := { program := "ythncfjfgjdeajaa", sum := "266a736c862694513b8b7033bfeb378225035657e20701fdc6b36ea9d6ab23d4", func := "legatee/legateelaw05.BookMerges", spec := "bookMerges", unfollowed := true, recurses := true, apart := false }
def BookMergesSaid : Prop := bookMergesRow.holds Try.pinned (OpenSpec.ofChange bookMergesSpec)

/-- ITS FALSE NEIGHBOUR: 'it returns false'. Refute it at one input. -/
def bookMergesWrong : ChangeSpec := { name := "bookMerges", fn := fun _ => fun
  | [d1, d2] => { results := [.lit (.bool false)], args := [d1, d2] }
  | _ => none }
def BookMergesWrongFalsely : Prop := bookMergesRow.holds Try.pinned (OpenSpec.ofChange bookMergesWrong)

/-- 'legateelaw05.BookLatest': WHATEVER THE INPUT: true; the input reads as it did. -/
def bookLatestSpec : ChangeSpec := { name := "bookLatest", fn := fun _ => fun
  | [d1, d2] => { results := [.lit (.bool true)], args := [d1, d2] }
  | _ => none }
def bookLatestRow : OpenClaim := { program := "ythncfjfgjdeajaa", sum := "266a736c862694513b8b7033bfeb378225035657e20701fdc6b36ea9d6ab23d4", func := "legatee/legateelaw05.BookLatest", spec := "bookLatest", unfollowed := true, recurses := true, apart := false }
def BookLatestSaid : Prop := bookLatestRow.holds Try.pinned (OpenSpec.ofChange bookLatestSpec)

/-- ITS FALSE NEIGHBOUR: 'it returns false'. Refute it at one input. -/
def bookLatestWrong : ChangeSpec := { name := "bookLatest", fn := fun _ => fun
  | [d1, d2] => { results := [.lit (.bool false)], args := [d1, d2] }
  | _ => none }
def BookLatestWrongFalsely : Prop := bookLatestRow.holds Try.pinned (OpenSpec.ofChange bookLatestWrong)

/- THE SECOND FORM. 'bulk': how many values and letters a reading holds, each counted each time it is reached (what is shared counts as often as it is met; a slice's spare places count too). A statement '..UptoSaid' is the law's where the arguments, and the package variables that the reading takes, are together of bulk at most 1048576: NARROWER than '..Said'. Prove '..Said' where nothing that the law and all that it calls make is longer than what came in: it says more and counts as full. Else prove '..UptoSaid'. A law counts once. -/
mutual
def uptoBulk {H : Type} : DataW H → Nat
  | .lit (.string bytes) => bytes.length + 1
  | .lit _ => 1
  | .nil => 1
  | .ptr d => uptoBulk d + 1
  | .slice elems spare => uptoBulkAll elems + uptoBulkAll spare + 1
  | .agg parts => uptoBulkAll parts + 1
  | .iface _ d => uptoBulk d + 1
  | .map entries => uptoBulkEntries entries + 1
  | .held _ => 1
def uptoBulkAll {H : Type} : List (DataW H) → Nat
  | [] => 0
  | d :: r => uptoBulk d + uptoBulkAll r
def uptoBulkEntries {H : Type} : List (Lit × DataW H) → Nat
  | [] => 0
  | x :: r => uptoBulkEntry x + uptoBulkEntries r
def uptoBulkEntry {H : Type} : Lit × DataW H → Nat
  | (.string bytes, d) => bytes.length + uptoBulk d + 1
  | (_, d) => uptoBulk d + 1
 end
def uptoSmall : (H : Type) → List (DataW H) → Bool := fun _ ds => decide (uptoBulkAll ds ≤ 1048576)
def OpenSpec.upto (s : _root_.Go.ChangeSpec) : _root_.Go.OpenSpec := { _root_.Go.OpenSpec.ofChange s with cond := some uptoSmall }

/-- 'legateelaw04.RowOthers', WHERE WHAT IT READS IS OF BULK AT MOST 1048576: true; the input reads as it did. -/
def rowOthersUptoRow : OpenClaim := { program := "ythncfjfgjdeajaa", sum := "266a736c862694513b8b7033bfeb378225035657e20701fdc6b36ea9d6ab23d4", func := "legatee/legateelaw04.RowOthers", spec := "rowOthers", unfollowed := true, recurses := true, apart := false, narrowed := true }
def RowOthersUptoSaid : Prop := rowOthersUptoRow.holds Try.pinned (OpenSpec.upto rowOthersSpec)

/-- 'legateelaw04.RowChains', WHERE WHAT IT READS IS OF BULK AT MOST 1048576: true; the input reads as it did. -/
def rowChainsUptoRow : OpenClaim := { program := "ythncfjfgjdeajaa", sum := "266a736c862694513b8b7033bfeb378225035657e20701fdc6b36ea9d6ab23d4", func := "legatee/legateelaw04.RowChains", spec := "rowChains", unfollowed := true, recurses := true, apart := false, narrowed := true }
def RowChainsUptoSaid : Prop := rowChainsUptoRow.holds Try.pinned (OpenSpec.upto rowChainsSpec)

/-- 'legateelaw04.RowOwns', WHERE WHAT IT READS IS OF BULK AT MOST 1048576: true; the input reads as it did. -/
def rowOwnsUptoRow : OpenClaim := { program := "ythncfjfgjdeajaa", sum := "266a736c862694513b8b7033bfeb378225035657e20701fdc6b36ea9d6ab23d4", func := "legatee/legateelaw04.RowOwns", spec := "rowOwns", unfollowed := true, recurses := true, apart := false, narrowed := true }
def RowOwnsUptoSaid : Prop := rowOwnsUptoRow.holds Try.pinned (OpenSpec.upto rowOwnsSpec)

/-- 'legateelaw04.RowRights', WHERE WHAT IT READS IS OF BULK AT MOST 1048576: true; the input reads as it did. -/
def rowRightsUptoRow : OpenClaim := { program := "ythncfjfgjdeajaa", sum := "266a736c862694513b8b7033bfeb378225035657e20701fdc6b36ea9d6ab23d4", func := "legatee/legateelaw04.RowRights", spec := "rowRights", unfollowed := true, recurses := true, apart := false, narrowed := true }
def RowRightsUptoSaid : Prop := rowRightsUptoRow.holds Try.pinned (OpenSpec.upto rowRightsSpec)

/-- 'legateelaw04.RowInherits', WHERE WHAT IT READS IS OF BULK AT MOST 1048576: true; the input reads as it did. -/
def rowInheritsUptoRow : OpenClaim := { program := "ythncfjfgjdeajaa", sum := "266a736c862694513b8b7033bfeb378225035657e20701fdc6b36ea9d6ab23d4", func := "legatee/legateelaw04.RowInherits", spec := "rowInherits", unfollowed := true, recurses := true, apart := false, narrowed := true }
def RowInheritsUptoSaid : Prop := rowInheritsUptoRow.holds Try.pinned (OpenSpec.upto rowInheritsSpec)

/-- 'legateelaw04.RowChanges', WHERE WHAT IT READS IS OF BULK AT MOST 1048576: true; the input reads as it did. -/
def rowChangesUptoRow : OpenClaim := { program := "ythncfjfgjdeajaa", sum := "266a736c862694513b8b7033bfeb378225035657e20701fdc6b36ea9d6ab23d4", func := "legatee/legateelaw04.RowChanges", spec := "rowChanges", unfollowed := true, recurses := true, apart := false, narrowed := true }
def RowChangesUptoSaid : Prop := rowChangesUptoRow.holds Try.pinned (OpenSpec.upto rowChangesSpec)

/-- 'legateelaw14.MirrorRuns', WHERE WHAT IT READS IS OF BULK AT MOST 1048576: true; the input reads as it did. -/
def mirrorRunsUptoRow : OpenClaim := { program := "ythncfjfgjdeajaa", sum := "266a736c862694513b8b7033bfeb378225035657e20701fdc6b36ea9d6ab23d4", func := "legatee/legateelaw14.MirrorRuns", spec := "mirrorRuns", unfollowed := true, recurses := true, apart := false, narrowed := true }
def MirrorRunsUptoSaid : Prop := mirrorRunsUptoRow.holds Try.pinned (OpenSpec.upto mirrorRunsSpec)

/-- 'legateelaw14.MirrorApart', WHERE WHAT IT READS IS OF BULK AT MOST 1048576: true; the input reads as it did. -/
def mirrorApartUptoRow : OpenClaim := { program := "ythncfjfgjdeajaa", sum := "266a736c862694513b8b7033bfeb378225035657e20701fdc6b36ea9d6ab23d4", func := "legatee/legateelaw14.MirrorApart", spec := "mirrorApart", unfollowed := true, recurses := true, apart := false, narrowed := true }
def MirrorApartUptoSaid : Prop := mirrorApartUptoRow.holds Try.pinned (OpenSpec.upto mirrorApartSpec)

/-- 'legateelaw05.BookCounts', WHERE WHAT IT READS IS OF BULK AT MOST 1048576: true; the input reads as it did. -/
def bookCountsUptoRow : OpenClaim := { program := "ythncfjfgjdeajaa", sum := "266a736c862694513b8b7033bfeb378225035657e20701fdc6b36ea9d6ab23d4", func := "legatee/legateelaw05.BookCounts", spec := "bookCounts", unfollowed := true, recurses := true, apart := false, narrowed := true }
def BookCountsUptoSaid : Prop := bookCountsUptoRow.holds Try.pinned (OpenSpec.upto bookCountsSpec)

/-- 'legateelaw05.BookSums', WHERE WHAT IT READS IS OF BULK AT MOST 1048576: true; the input reads as it did. -/
def bookSumsUptoRow : OpenClaim := { program := "ythncfjfgjdeajaa", sum := "266a736c862694513b8b7033bfeb378225035657e20701fdc6b36ea9d6ab23d4", func := "legatee/legateelaw05.BookSums", spec := "bookSums", unfollowed := true, recurses := true, apart := false, narrowed := true }
def BookSumsUptoSaid : Prop := bookSumsUptoRow.holds Try.pinned (OpenSpec.upto bookSumsSpec)

/-- 'legateelaw05.BookMoves', WHERE WHAT IT READS IS OF BULK AT MOST 1048576: true; the input reads as it did. -/
def bookMovesUptoRow : OpenClaim := { program := "ythncfjfgjdeajaa", sum := "266a736c862694513b8b7033bfeb378225035657e20701fdc6b36ea9d6ab23d4", func := "legatee/legateelaw05.BookMoves", spec := "bookMoves", unfollowed := true, recurses := true, apart := false, narrowed := true }
def BookMovesUptoSaid : Prop := bookMovesUptoRow.holds Try.pinned (OpenSpec.upto bookMovesSpec)

/-- 'legateelaw05.BookMerges', WHERE WHAT IT READS IS OF BULK AT MOST 1048576: true; the input reads as it did. -/
def bookMergesUptoRow : OpenClaim := { program := "ythncfjfgjdeajaa", sum := "266a736c862694513b8b7033bfeb378225035657e20701fdc6b36ea9d6ab23d4", func := "legatee/legateelaw05.BookMerges", spec := "bookMerges", unfollowed := true, recurses := true, apart := false, narrowed := true }
def BookMergesUptoSaid : Prop := bookMergesUptoRow.holds Try.pinned (OpenSpec.upto bookMergesSpec)

/-- 'legateelaw05.BookLatest', WHERE WHAT IT READS IS OF BULK AT MOST 1048576: true; the input reads as it did. -/
def bookLatestUptoRow : OpenClaim := { program := "ythncfjfgjdeajaa", sum := "266a736c862694513b8b7033bfeb378225035657e20701fdc6b36ea9d6ab23d4", func := "legatee/legateelaw05.BookLatest", spec := "bookLatest", unfollowed := true, recurses := true, apart := false, narrowed := true }
def BookLatestUptoSaid : Prop := bookLatestUptoRow.holds Try.pinned (OpenSpec.upto bookLatestSpec)

end Rows
end Go.Proofs.Ythncfjfgjdeajaa
