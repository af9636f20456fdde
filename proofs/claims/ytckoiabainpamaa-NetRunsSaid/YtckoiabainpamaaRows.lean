/-
  No cell of these rows narrows 'for every input' (looked for: loops, veiled, ifaces, maps, wideKeys, modest, calm, conditions, laid).
  DERIVED. THE GIVEN ROWS OF THIS SEAT. 14 by the template 'for every input the law returns true; each argument reads behind the call as it read before'; 0 by the template 'total and deterministic' (their statements: YtckoiabainpamaaTotals.lean).
  GIVEN WITH THE SEED: the statements are not yours to turn. If you find one false, say at which input.
  Laid BY PROGRAM, IN A SANDBOX (cutbox-rows.mjs): the forced cells as the released guide's own fill.sh prints them over the translation de01c7c5f196ab61… (all of the seat's roots in one cut). By AI agents, Wed Nov 11 2026. No macro, syntax, notation, axiom, sorry.
-/
import Derived.Test.YtckoiabainpamaaChecked
import GoSem.Claim
import GoSem.ClaimJoined
import GoSem.ClaimMapViews
import Derived.JoinedTies
import Derived.KernelRfl
namespace Go.Proofs.Ytckoiabainpamaa
/- THE CELL 'sum', in the pinned program and in every row, IS THE sha256 OF THE DUMP (.gsa) THAT YtckoiabainpamaaProg.lean LOADS. Nothing in Lean hashes anything: it is a label: what it is worth is what the hold of that sum in a sandbox is worth. -/
noncomputable def Try.pinned : Pinned := { name := "ytckoiabainpamaa", sum := "de01c7c5f196ab61d68718cc253c3ef2c5eaf22f215382ec51f63d65b376c623", checked := Try.checked }
namespace Rows
def none {H : Type} : Left H := { results := [], args := [] }

/-- 'legateelaw02.SumParts': WHATEVER THE INPUT: true; the input reads as it did. -/
def sumPartsSpec : ChangeSpec := { name := "sumParts", fn := fun _ => fun
  | [d1, d2, d3] => { results := [.lit (.bool true)], args := [d1, d2, d3] }
  | _ => none }
def sumPartsRow : OpenClaim := { program := "ytckoiabainpamaa", sum := "de01c7c5f196ab61d68718cc253c3ef2c5eaf22f215382ec51f63d65b376c623", func := "legatee/legateelaw02.SumParts", spec := "sumParts", apart := false }
def SumPartsSaid : Prop := sumPartsRow.holds Try.pinned (OpenSpec.ofChange sumPartsSpec)

/-- ITS FALSE NEIGHBOUR: 'it returns false'. Refute it at one input. -/
def sumPartsWrong : ChangeSpec := { name := "sumParts", fn := fun _ => fun
  | [d1, d2, d3] => { results := [.lit (.bool false)], args := [d1, d2, d3] }
  | _ => none }
def SumPartsWrongFalsely : Prop := sumPartsRow.holds Try.pinned (OpenSpec.ofChange sumPartsWrong)

/-- 'legateelaw02.SumBits': WHATEVER THE INPUT: true; the input reads as it did. -/
def sumBitsSpec : ChangeSpec := { name := "sumBits", fn := fun _ => fun
  | [d] => { results := [.lit (.bool true)], args := [d] }
  | _ => none }
def sumBitsRow : OpenClaim := { program := "ytckoiabainpamaa", sum := "de01c7c5f196ab61d68718cc253c3ef2c5eaf22f215382ec51f63d65b376c623", func := "legatee/legateelaw02.SumBits", spec := "sumBits", apart := false }
def SumBitsSaid : Prop := sumBitsRow.holds Try.pinned (OpenSpec.ofChange sumBitsSpec)

/-- ITS FALSE NEIGHBOUR: 'it returns false'. Refute it at one input. -/
def sumBitsWrong : ChangeSpec := { name := "sumBits", fn := fun _ => fun
  | [d] => { results := [.lit (.bool false)], args := [d] }
  | _ => none }
def SumBitsWrongFalsely : Prop := sumBitsRow.holds Try.pinned (OpenSpec.ofChange sumBitsWrong)

/-- 'legateelaw02.SumTakes': WHATEVER THE INPUT: true; the input reads as it did. -/
def sumTakesSpec : ChangeSpec := { name := "sumTakes", fn := fun _ => fun
  | [d1, d2, d3] => { results := [.lit (.bool true)], args := [d1, d2, d3] }
  | _ => none }
def sumTakesRow : OpenClaim := { program := "ytckoiabainpamaa", sum := "de01c7c5f196ab61d68718cc253c3ef2c5eaf22f215382ec51f63d65b376c623", func := "legatee/legateelaw02.SumTakes", spec := "sumTakes", apart := false }
def SumTakesSaid : Prop := sumTakesRow.holds Try.pinned (OpenSpec.ofChange sumTakesSpec)

/-- ITS FALSE NEIGHBOUR: 'it returns false'. Refute it at one input. -/
def sumTakesWrong : ChangeSpec := { name := "sumTakes", fn := fun _ => fun
  | [d1, d2, d3] => { results := [.lit (.bool false)], args := [d1, d2, d3] }
  | _ => none }
def SumTakesWrongFalsely : Prop := sumTakesRow.holds Try.pinned (OpenSpec.ofChange sumTakesWrong)

/-- 'legateelaw02.SumBursts': WHATEVER THE INPUT: true; the input reads as it did. -/
def sumBurstsSpec : ChangeSpec := { name := "sumBursts", fn := fun _ => fun
  | [d1, d2, d3] => { results := [.lit (.bool true)], args := [d1, d2, d3] }
  | _ => none }
def sumBurstsRow : OpenClaim := { program := "ytckoiabainpamaa", sum := "de01c7c5f196ab61d68718cc253c3ef2c5eaf22f215382ec51f63d65b376c623", func := "legatee/legateelaw02.SumBursts", spec := "sumBursts", apart := false }
def SumBurstsSaid : Prop := sumBurstsRow.holds Try.pinned (OpenSpec.ofChange sumBurstsSpec)

/-- ITS FALSE NEIGHBOUR: 'it returns false'. Refute it at one input. -/
def sumBurstsWrong : ChangeSpec := { name := "sumBursts", fn := fun _ => fun
  | [d1, d2, d3] => { results := [.lit (.bool false)], args := [d1, d2, d3] }
  | _ => none }
def SumBurstsWrongFalsely : Prop := sumBurstsRow.holds Try.pinned (OpenSpec.ofChange sumBurstsWrong)

/-- 'legateelaw02.SumAny': WHATEVER THE INPUT: true; the input reads as it did. -/
def sumAnySpec : ChangeSpec := { name := "sumAny", fn := fun _ => fun
  | [d] => { results := [.lit (.bool true)], args := [d] }
  | _ => none }
def sumAnyRow : OpenClaim := { program := "ytckoiabainpamaa", sum := "de01c7c5f196ab61d68718cc253c3ef2c5eaf22f215382ec51f63d65b376c623", func := "legatee/legateelaw02.SumAny", spec := "sumAny", apart := false }
def SumAnySaid : Prop := sumAnyRow.holds Try.pinned (OpenSpec.ofChange sumAnySpec)

/-- ITS FALSE NEIGHBOUR: 'it returns false'. Refute it at one input. -/
def sumAnyWrong : ChangeSpec := { name := "sumAny", fn := fun _ => fun
  | [d] => { results := [.lit (.bool false)], args := [d] }
  | _ => none }
def SumAnyWrongFalsely : Prop := sumAnyRow.holds Try.pinned (OpenSpec.ofChange sumAnyWrong)

/-- 'legateelaw08.BoxKeeps': WHATEVER THE INPUT: true; the input reads as it did. -/
def boxKeepsSpec : ChangeSpec := { name := "boxKeeps", fn := fun _ => fun
  | [d1, d2] => { results := [.lit (.bool true)], args := [d1, d2] }
  | _ => none }
def boxKeepsRow : OpenClaim := { program := "ytckoiabainpamaa", sum := "de01c7c5f196ab61d68718cc253c3ef2c5eaf22f215382ec51f63d65b376c623", func := "legatee/legateelaw08.BoxKeeps", spec := "boxKeeps", apart := false }
def BoxKeepsSaid : Prop := boxKeepsRow.holds Try.pinned (OpenSpec.ofChange boxKeepsSpec)

/-- ITS FALSE NEIGHBOUR: 'it returns false'. Refute it at one input. -/
def boxKeepsWrong : ChangeSpec := { name := "boxKeeps", fn := fun _ => fun
  | [d1, d2] => { results := [.lit (.bool false)], args := [d1, d2] }
  | _ => none }
def BoxKeepsWrongFalsely : Prop := boxKeepsRow.holds Try.pinned (OpenSpec.ofChange boxKeepsWrong)

/-- 'legateelaw08.BoxTurns': WHATEVER THE INPUT: true; the input reads as it did. -/
def boxTurnsSpec : ChangeSpec := { name := "boxTurns", fn := fun _ => fun
  | [d1, d2] => { results := [.lit (.bool true)], args := [d1, d2] }
  | _ => none }
def boxTurnsRow : OpenClaim := { program := "ytckoiabainpamaa", sum := "de01c7c5f196ab61d68718cc253c3ef2c5eaf22f215382ec51f63d65b376c623", func := "legatee/legateelaw08.BoxTurns", spec := "boxTurns", apart := false }
def BoxTurnsSaid : Prop := boxTurnsRow.holds Try.pinned (OpenSpec.ofChange boxTurnsSpec)

/-- ITS FALSE NEIGHBOUR: 'it returns false'. Refute it at one input. -/
def boxTurnsWrong : ChangeSpec := { name := "boxTurns", fn := fun _ => fun
  | [d1, d2] => { results := [.lit (.bool false)], args := [d1, d2] }
  | _ => none }
def BoxTurnsWrongFalsely : Prop := boxTurnsRow.holds Try.pinned (OpenSpec.ofChange boxTurnsWrong)

/-- 'legateelaw09.NetApart': WHATEVER THE INPUT: true; the input reads as it did. -/
def netApartSpec : ChangeSpec := { name := "netApart", fn := fun _ => fun
  | [d1, d2, d3] => { results := [.lit (.bool true)], args := [d1, d2, d3] }
  | _ => none }
def netApartRow : OpenClaim := { program := "ytckoiabainpamaa", sum := "de01c7c5f196ab61d68718cc253c3ef2c5eaf22f215382ec51f63d65b376c623", func := "legatee/legateelaw09.NetApart", spec := "netApart", apart := false }
def NetApartSaid : Prop := netApartRow.holds Try.pinned (OpenSpec.ofChange netApartSpec)

/-- ITS FALSE NEIGHBOUR: 'it returns false'. Refute it at one input. -/
def netApartWrong : ChangeSpec := { name := "netApart", fn := fun _ => fun
  | [d1, d2, d3] => { results := [.lit (.bool false)], args := [d1, d2, d3] }
  | _ => none }
def NetApartWrongFalsely : Prop := netApartRow.holds Try.pinned (OpenSpec.ofChange netApartWrong)

/-- 'legateelaw10.LinkFrames': WHATEVER THE INPUT: true; the input reads as it did. -/
def linkFramesSpec : ChangeSpec := { name := "linkFrames", fn := fun _ => fun
  | [d1, d2, d3] => { results := [.lit (.bool true)], args := [d1, d2, d3] }
  | _ => none }
def linkFramesRow : OpenClaim := { program := "ytckoiabainpamaa", sum := "de01c7c5f196ab61d68718cc253c3ef2c5eaf22f215382ec51f63d65b376c623", func := "legatee/legateelaw10.LinkFrames", spec := "linkFrames", apart := false }
def LinkFramesSaid : Prop := linkFramesRow.holds Try.pinned (OpenSpec.ofChange linkFramesSpec)

/-- ITS FALSE NEIGHBOUR: 'it returns false'. Refute it at one input. -/
def linkFramesWrong : ChangeSpec := { name := "linkFrames", fn := fun _ => fun
  | [d1, d2, d3] => { results := [.lit (.bool false)], args := [d1, d2, d3] }
  | _ => none }
def LinkFramesWrongFalsely : Prop := linkFramesRow.holds Try.pinned (OpenSpec.ofChange linkFramesWrong)

/-- 'legateelaw10.LinkApart': WHATEVER THE INPUT: true; the input reads as it did. -/
def linkApartSpec : ChangeSpec := { name := "linkApart", fn := fun _ => fun
  | [d1, d2, d3] => { results := [.lit (.bool true)], args := [d1, d2, d3] }
  | _ => none }
def linkApartRow : OpenClaim := { program := "ytckoiabainpamaa", sum := "de01c7c5f196ab61d68718cc253c3ef2c5eaf22f215382ec51f63d65b376c623", func := "legatee/legateelaw10.LinkApart", spec := "linkApart", apart := false }
def LinkApartSaid : Prop := linkApartRow.holds Try.pinned (OpenSpec.ofChange linkApartSpec)

/-- ITS FALSE NEIGHBOUR: 'it returns false'. Refute it at one input. -/
def linkApartWrong : ChangeSpec := { name := "linkApart", fn := fun _ => fun
  | [d1, d2, d3] => { results := [.lit (.bool false)], args := [d1, d2, d3] }
  | _ => none }
def LinkApartWrongFalsely : Prop := linkApartRow.holds Try.pinned (OpenSpec.ofChange linkApartWrong)

/-- 'legateelaw10.LinkAny': WHATEVER THE INPUT: true; the input reads as it did. -/
def linkAnySpec : ChangeSpec := { name := "linkAny", fn := fun _ => fun
  | [d1, d2, d3] => { results := [.lit (.bool true)], args := [d1, d2, d3] }
  | _ => none }
def linkAnyRow : OpenClaim := { program := "ytckoiabainpamaa", sum := "de01c7c5f196ab61d68718cc253c3ef2c5eaf22f215382ec51f63d65b376c623", func := "legatee/legateelaw10.LinkAny", spec := "linkAny", apart := false }
def LinkAnySaid : Prop := linkAnyRow.holds Try.pinned (OpenSpec.ofChange linkAnySpec)

/-- ITS FALSE NEIGHBOUR: 'it returns false'. Refute it at one input. -/
def linkAnyWrong : ChangeSpec := { name := "linkAny", fn := fun _ => fun
  | [d1, d2, d3] => { results := [.lit (.bool false)], args := [d1, d2, d3] }
  | _ => none }
def LinkAnyWrongFalsely : Prop := linkAnyRow.holds Try.pinned (OpenSpec.ofChange linkAnyWrong)

/-- 'legateelaw08.BoxRuns': WHATEVER THE INPUT: true; the input reads as it did. -/
def boxRunsSpec : ChangeSpec := { name := "boxRuns", fn := fun _ => fun
  | [d1, d2] => { results := [.lit (.bool true)], args := [d1, d2] }
  | _ => none }
def boxRunsRow : OpenClaim := { program := "ytckoiabainpamaa", sum := "de01c7c5f196ab61d68718cc253c3ef2c5eaf22f215382ec51f63d65b376c623", func := "legatee/legateelaw08.BoxRuns", spec := "boxRuns", apart := false }
def BoxRunsSaid : Prop := boxRunsRow.holds Try.pinned (OpenSpec.ofChange boxRunsSpec)

/-- ITS FALSE NEIGHBOUR: 'it returns false'. Refute it at one input. -/
def boxRunsWrong : ChangeSpec := { name := "boxRuns", fn := fun _ => fun
  | [d1, d2] => { results := [.lit (.bool false)], args := [d1, d2] }
  | _ => none }
def BoxRunsWrongFalsely : Prop := boxRunsRow.holds Try.pinned (OpenSpec.ofChange boxRunsWrong)

/-- 'legateelaw09.NetRuns': WHATEVER THE INPUT: true; the input reads as it did. -/
def netRunsSpec : ChangeSpec := { name := "netRuns", fn := fun _ => fun
  | [d] => { results := [.lit (.bool true)], args := [d] }
  | _ => none }
def netRunsRow : OpenClaim := { program := "ytckoiabainpamaa", sum := "de01c7c5f196ab61d68718cc253c3ef2c5eaf22f215382ec51f63d65b376c623", func := "legatee/legateelaw09.NetRuns", spec := "netRuns", apart := false }
def NetRunsSaid : Prop := netRunsRow.holds Try.pinned (OpenSpec.ofChange netRunsSpec)

/-- ITS FALSE NEIGHBOUR: 'it returns false'. Refute it at one input. -/
def netRunsWrong : ChangeSpec := { name := "netRuns", fn := fun _ => fun
  | [d] => { results := [.lit (.bool false)], args := [d] }
  | _ => none }
def NetRunsWrongFalsely : Prop := netRunsRow.holds Try.pinned (OpenSpec.ofChange netRunsWrong)

/-- 'legateelaw10.LinkTakes': WHATEVER THE INPUT: true; the input reads as it did. -/
def linkTakesSpec : ChangeSpec := { name := "linkTakes", fn := fun _ => fun
  | [d1, d2] => { results := [.lit (.bool true)], args := [d1, d2] }
  | _ => none }
def linkTakesRow : OpenClaim := { program := "ytckoiabainpamaa", sum := "de01c7c5f196ab61d68718cc253c3ef2c5eaf22f215382ec51f63d65b376c623", func := "legatee/legateelaw10.LinkTakes", spec := "linkTakes", apart := false }
def LinkTakesSaid : Prop := linkTakesRow.holds Try.pinned (OpenSpec.ofChange linkTakesSpec)

/-- ITS FALSE NEIGHBOUR: 'it returns false'. Refute it at one input. -/
def linkTakesWrong : ChangeSpec := { name := "linkTakes", fn := fun _ => fun
  | [d1, d2] => { results := [.lit (.bool false)], args := [d1, d2] }
  | _ => none }
def LinkTakesWrongFalsely : Prop := linkTakesRow.holds Try.pinned (OpenSpec.ofChange linkTakesWrong)

/- THE SECOND FORM. 'bulk': how many values and letters a reading holds, each counted each time it is reached (what is shared counts as often as it is met; a slice's spare places count too). A statement '..UptoSaid' is the law's where the arguments, and the package variables that the reading takes, are together of bulk at most 1048576: NARROWER than '..Said'. Prove '..Said' where nothing that the law and all that it calls make is longer than what came in: it says more and counts as full. Else prove '..UptoSaid'. A law counts once. -/
mutual
def uptoBulk {H : Type} : DataW H → Nat
  | .lit (.string bytes) => bytes.length + 1
  | .lit _ => 1
  | .nil => 1
  | .ptr d => uptoBulk d + 1
  | .slice elems spare => uptoBulkAll elems + uptoBulkAll spare + 1
  | .agg parts => uptoBulkAll parts + 1
  | .iface _ d => uptoBulk d + 1
  | .map entries => uptoBulkEntries entries + 1
  | .held _ => 1
def uptoBulkAll {H : Type} : List (DataW H) → Nat
  | [] => 0
  | d :: r => uptoBulk d + uptoBulkAll r
def uptoBulkEntries {H : Type} : List (Lit × DataW H) → Nat
  | [] => 0
  | x :: r => uptoBulkEntry x + uptoBulkEntries r
def uptoBulkEntry {H : Type} : Lit × DataW H → Nat
  | (.string bytes, d) => bytes.length + uptoBulk d + 1
  | (_, d) => uptoBulk d + 1
 end
def uptoSmall : (H : Type) → List (DataW H) → Bool := fun _ ds => decide (uptoBulkAll ds ≤ 1048576)
def OpenSpec.upto (s : _root_.Go.ChangeSpec) : _root_.Go.OpenSpec := { _root_.Go.OpenSpec.ofChange s with cond := some uptoSmall }

/-- 'legateelaw02.SumParts', WHERE WHAT IT READS IS OF BULK AT MOST 1048576: true; the input reads as it did. -/
def sumPartsUptoRow : OpenClaim := { program := "ytckoiabainpamaa", sum := "de01c7c5f196ab61d68718cc253c3ef2c5eaf22f215382ec51f63d65b376c623", func := "legatee/legateelaw02.SumParts", spec := "sumParts", apart := false, narrowed := true }
def SumPartsUptoSaid : Prop := sumPartsUptoRow.holds Try.pinned (OpenSpec.upto sumPartsSpec)

/-- 'legateelaw02.SumBits', WHERE WHAT IT READS IS OF BULK AT MOST 1048576: true; the input reads as it did. -/
def sumBitsUptoRow : OpenClaim := { program := "ytckoiabainpamaa", sum := "de01c7c5f196ab61d68718cc253c3ef2c5eaf22f215382ec51f63d65b376c623", func := "legatee/legateelaw02.SumBits", spec := "sumBits", apart := false, narrowed := true }
def SumBitsUptoSaid : Prop := sumBitsUptoRow.holds Try.pinned (OpenSpec.upto sumBitsSpec)

/-- 'legateelaw02.SumTakes', WHERE WHAT IT READS IS OF BULK AT MOST 1048576: true; the input reads as it did. -/
def sumTakesUptoRow : OpenClaim := { program := "ytckoiabainpamaa", sum := "de01c7c5f196ab61d68718cc253c3ef2c5eaf22f215382ec51f63d65b376c623", func := "legatee/legateelaw02.SumTakes", spec := "sumTakes", apart := false, narrowed := true }
def SumTakesUptoSaid : Prop := sumTakesUptoRow.holds Try.pinned (OpenSpec.upto sumTakesSpec)

/-- 'legateelaw02.SumBursts', WHERE WHAT IT READS IS OF BULK AT MOST 1048576: true; the input reads as it did. -/
def sumBurstsUptoRow : OpenClaim := { program := "ytckoiabainpamaa", sum := "de01c7c5f196ab61d68718cc253c3ef2c5eaf22f215382ec51f63d65b376c623", func := "legatee/legateelaw02.SumBursts", spec := "sumBursts", apart := false, narrowed := true }
def SumBurstsUptoSaid : Prop := sumBurstsUptoRow.holds Try.pinned (OpenSpec.upto sumBurstsSpec)

/-- 'legateelaw02.SumAny', WHERE WHAT IT READS IS OF BULK AT MOST 1048576: true; the input reads as it did. -/
def sumAnyUptoRow : OpenClaim := { program := "ytckoiabainpamaa", sum := "de01c7c5f196ab61d68718cc253c3ef2c5eaf22f215382ec51f63d65b376c623", func := "legatee/legateelaw02.SumAny", spec := "sumAny", apart := false, narrowed := true }
def SumAnyUptoSaid : Prop := sumAnyUptoRow.holds Try.pinned (OpenSpec.upto sumAnySpec)

/-- 'legateelaw08.BoxKeeps', WHERE WHAT IT READS IS OF BULK AT MOST 1048576: true; the input reads as it did. -/
def boxKeepsUptoRow : OpenClaim := { program := "ytckoiabainpamaa", sum := "de01c7c5f196ab61d68718cc253c3ef2c5eaf22f215382ec51f63d65b376c623", func := "legatee/legateelaw08.BoxKeeps", spec := "boxKeeps", apart := false, narrowed := true }
def BoxKeepsUptoSaid : Prop := boxKeepsUptoRow.holds Try.pinned (OpenSpec.upto boxKeepsSpec)

/-- 'legateelaw08.BoxTurns', WHERE WHAT IT READS IS OF BULK AT MOST 1048576: true; the input reads as it did. -/
def boxTurnsUptoRow : OpenClaim := { program := "ytckoiabainpamaa", sum := "de01c7c5f196ab61d68718cc253c3ef2c5eaf22f215382ec51f63d65b376c623", func := "legatee/legateelaw08.BoxTurns", spec := "boxTurns", apart := false, narrowed := true }
def BoxTurnsUptoSaid : Prop := boxTurnsUptoRow.holds Try.pinned (OpenSpec.upto boxTurnsSpec)

/-- 'legateelaw09.NetApart', WHERE WHAT IT READS IS OF BULK AT MOST 1048576: true; the input reads as it did. -/
def netApartUptoRow : OpenClaim := { program := "ytckoiabainpamaa", sum := "de01c7c5f196ab61d68718cc253c3ef2c5eaf22f215382ec51f63d65b376c623", func := "legatee/legateelaw09.NetApart", spec := "netApart", apart := false, narrowed := true }
def NetApartUptoSaid : Prop := netApartUptoRow.holds Try.pinned (OpenSpec.upto netApartSpec)

/-- 'legateelaw10.LinkFrames', WHERE WHAT IT READS IS OF BULK AT MOST 1048576: true; the input reads as it did. -/
def linkFramesUptoRow : OpenClaim := { program := "ytckoiabainpamaa", sum := "de01c7c5f196ab61d68718cc253c3ef2c5eaf22f215382ec51f63d65b376c623", func := "legatee/legateelaw10.LinkFrames", spec := "linkFrames", apart := false, narrowed := true }
def LinkFramesUptoSaid : Prop := linkFramesUptoRow.holds Try.pinned (OpenSpec.upto linkFramesSpec)

/-- 'legateelaw10.LinkApart', WHERE WHAT IT READS IS OF BULK AT MOST 1048576: true; the input reads as it did. -/
def linkApartUptoRow : OpenClaim := { program := "ytckoiabainpamaa", sum := "de01c7c5f196ab61d68718cc253c3ef2c5eaf22f215382ec51f63d65b376c623", func := "legatee/legateelaw10.LinkApart", spec := "linkApart", apart := false, narrowed := true }
def LinkApartUptoSaid : Prop := linkApartUptoRow.holds Try.pinned (OpenSpec.upto linkApartSpec)

/-- 'legateelaw10.LinkAny', WHERE WHAT IT READS IS OF BULK AT MOST 1048576: true; the input reads as it did. -/
def linkAnyUptoRow : OpenClaim := { program := "ytckoiabainpamaa", sum := "de01c7c5f196ab61d68718cc253c3ef2c5eaf22f215382ec51f63d65b376c623", func := "legatee/legateelaw10.LinkAny", spec := "linkAny", apart := false, narrowed := true }
def LinkAnyUptoSaid : Prop := linkAnyUptoRow.holds Try.pinned (OpenSpec.upto linkAnySpec)

/-- 'legateelaw08.BoxRuns', WHERE WHAT IT READS IS OF BULK AT MOST 1048576: true; the input reads as it did. -/
def boxRunsUptoRow : OpenClaim := { program := "ytckoiabainpamaa", sum := "de01c7c5f196ab61d68718cc253c3ef2c5eaf22f215382ec51f63d65b376c623", func := "legatee/legateelaw08.BoxRuns", spec := "boxRuns", apart := false, narrowed := true }
def BoxRunsUptoSaid : Prop := boxRunsUptoRow.holds Try.pinned (OpenSpec.upto boxRunsSpec)

/-- 'legateelaw09.NetRuns', WHERE WHAT IT READS IS OF BULK AT MOST 1048576: true; the input reads as it did. -/
def netRunsUptoRow : OpenClaim := { program := "ytckoiabainpamaa", sum := "de01c7c5f196ab61d68718cc253c3ef2c5eaf22f215382ec51f63d65b376c623", func := "legatee/legateelaw09.NetRuns", spec := "netRuns", apart := false, narrowed := true }
def NetRunsUptoSaid : Prop := netRunsUptoRow.holds Try.pinned (OpenSpec.upto netRunsSpec)

/-- 'legateelaw10.LinkTakes', WHERE WHAT IT READS IS OF BULK AT MOST 1048576: true; the input reads as it did. -/
def linkTakesUptoRow : OpenClaim := { program := "ytckoiabainpamaa", sum := "de01c7c5f196ab61d68718cc253c3ef2c5eaf22f215382ec51f63d65b376c623", func := "legatee/legateelaw10.LinkTakes", spec := "linkTakes", apart := false, narrowed := true }
def LinkTakesUptoSaid : Prop := linkTakesUptoRow.holds Try.pinned (OpenSpec.upto linkTakesSpec)

end Rows
end Go.Proofs.Ytckoiabainpamaa
