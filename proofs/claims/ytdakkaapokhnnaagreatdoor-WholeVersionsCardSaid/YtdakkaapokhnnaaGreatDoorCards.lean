/-
  DERIVED. GIVEN WITH THE SEED: THE CARDS: each row of YtdakkaapokhnnaaGreatDoorRows.lean that lists a variable, with what it lists TIED to the program's text (the seventh form; the later family's looks); each row that meets fmt, with fmt's text TOLD by the authors' own Lean function (tested against real Go, not proved from fmt's source: count such statements apart). THE CARD IS WHAT COUNTS. Prove the row's statement (the work); the ties are given (YtdakkaapokhnnaaGreatDoorTie.lean); close each card by the builder's one call (the guide's Derived/Test/ToyasCard.lean, 'card_holds'). Laid BY PROGRAM, IN A SANDBOX (cutbox-door.mjs). By AI agents, Wed Nov 11 2026. No macro, syntax, notation, axiom, sorry.
-/
import Derived.Test.YtdakkaapokhnnaaGreatDoorRows
import GoSem.ClaimSeven
namespace Go.Proofs.YtdakkaapokhnnaaGreatDoor
namespace Rows

/-- THE TIED CARD OF 'legateetop.WholeAgain'. -/
def wholeAgainCard : Claim7 := { stood := { row := wholeAgainRow, standIns := [], harness := (true, "34804500066b9c71cf38ff047d3a32a9bb5856fb1a39d40ea7cbbfce4c1cc454"), looks := true }, kinds := [], alts := [], laidByText := true, laidKinds := [.data, .data, .data], laidTests := true, laidLooks := .later }
def WholeAgainCardSaid : Prop := Claim7.holds Tryz.pinned (.plain (OpenSpec.ofChange wholeAgainSpec)) wholeAgainCard

/-- THE TIED CARD OF 'legateetop.WholeHeirs'. -/
def wholeHeirsCard : Claim7 := { stood := { row := wholeHeirsRow, standIns := [], harness := (true, "34804500066b9c71cf38ff047d3a32a9bb5856fb1a39d40ea7cbbfce4c1cc454"), looks := true }, kinds := [], alts := [], laidByText := true, laidKinds := [.data, .data, .data], laidTests := true, laidLooks := .later }
def WholeHeirsCardSaid : Prop := Claim7.holds Tryz.pinned (.plain (OpenSpec.ofChange wholeHeirsSpec)) wholeHeirsCard

/-- THE TIED CARD OF 'legateetop.WholeVersions'. -/
def wholeVersionsCard : Claim7 := { stood := { row := wholeVersionsRow, standIns := [], harness := (true, "34804500066b9c71cf38ff047d3a32a9bb5856fb1a39d40ea7cbbfce4c1cc454"), looks := true }, kinds := [], alts := [], laidByText := true, laidKinds := [.data, .data, .data], laidTests := true, laidLooks := .later }
def WholeVersionsCardSaid : Prop := Claim7.holds Tryz.pinned (.plain (OpenSpec.ofChange wholeVersionsSpec)) wholeVersionsCard

/-- THE TIED CARD OF 'legateetop.WholeMirrors'. -/
def wholeMirrorsCard : Claim7 := { stood := { row := wholeMirrorsRow, standIns := [], harness := (true, "34804500066b9c71cf38ff047d3a32a9bb5856fb1a39d40ea7cbbfce4c1cc454"), looks := true }, kinds := [], alts := [], laidByText := true, laidKinds := [.data, .data, .data], laidTests := true, laidLooks := .later }
def WholeMirrorsCardSaid : Prop := Claim7.holds Tryz.pinned (.plain (OpenSpec.ofChange wholeMirrorsSpec)) wholeMirrorsCard

/-- THE TIED CARD OF 'legateetop.WholeLost'. -/
def wholeLostCard : Claim7 := { stood := { row := wholeLostRow, standIns := [], harness := (true, "34804500066b9c71cf38ff047d3a32a9bb5856fb1a39d40ea7cbbfce4c1cc454"), looks := true }, kinds := [], alts := [], laidByText := true, laidKinds := [.data, .data, .data], laidTests := true, laidLooks := .later }
def WholeLostCardSaid : Prop := Claim7.holds Tryz.pinned (.plain (OpenSpec.ofChange wholeLostSpec)) wholeLostCard

/-- THE SECOND FORM's CARD OF 'legateetop.WholeAgain'. -/
def wholeAgainUptoCard : Claim7 := { stood := { row := wholeAgainUptoRow, standIns := [], harness := (true, "34804500066b9c71cf38ff047d3a32a9bb5856fb1a39d40ea7cbbfce4c1cc454"), looks := true }, kinds := [], alts := [], laidByText := true, laidKinds := [.data, .data, .data], laidTests := true, laidLooks := .later }
def WholeAgainUptoCardSaid : Prop := Claim7.holds Tryz.pinned (.plain (OpenSpec.upto wholeAgainSpec)) wholeAgainUptoCard

/-- THE SECOND FORM's CARD OF 'legateetop.WholeHeirs'. -/
def wholeHeirsUptoCard : Claim7 := { stood := { row := wholeHeirsUptoRow, standIns := [], harness := (true, "34804500066b9c71cf38ff047d3a32a9bb5856fb1a39d40ea7cbbfce4c1cc454"), looks := true }, kinds := [], alts := [], laidByText := true, laidKinds := [.data, .data, .data], laidTests := true, laidLooks := .later }
def WholeHeirsUptoCardSaid : Prop := Claim7.holds Tryz.pinned (.plain (OpenSpec.upto wholeHeirsSpec)) wholeHeirsUptoCard

/-- THE SECOND FORM's CARD OF 'legateetop.WholeVersions'. -/
def wholeVersionsUptoCard : Claim7 := { stood := { row := wholeVersionsUptoRow, standIns := [], harness := (true, "34804500066b9c71cf38ff047d3a32a9bb5856fb1a39d40ea7cbbfce4c1cc454"), looks := true }, kinds := [], alts := [], laidByText := true, laidKinds := [.data, .data, .data], laidTests := true, laidLooks := .later }
def WholeVersionsUptoCardSaid : Prop := Claim7.holds Tryz.pinned (.plain (OpenSpec.upto wholeVersionsSpec)) wholeVersionsUptoCard

/-- THE SECOND FORM's CARD OF 'legateetop.WholeMirrors'. -/
def wholeMirrorsUptoCard : Claim7 := { stood := { row := wholeMirrorsUptoRow, standIns := [], harness := (true, "34804500066b9c71cf38ff047d3a32a9bb5856fb1a39d40ea7cbbfce4c1cc454"), looks := true }, kinds := [], alts := [], laidByText := true, laidKinds := [.data, .data, .data], laidTests := true, laidLooks := .later }
def WholeMirrorsUptoCardSaid : Prop := Claim7.holds Tryz.pinned (.plain (OpenSpec.upto wholeMirrorsSpec)) wholeMirrorsUptoCard

/-- THE SECOND FORM's CARD OF 'legateetop.WholeLost'. -/
def wholeLostUptoCard : Claim7 := { stood := { row := wholeLostUptoRow, standIns := [], harness := (true, "34804500066b9c71cf38ff047d3a32a9bb5856fb1a39d40ea7cbbfce4c1cc454"), looks := true }, kinds := [], alts := [], laidByText := true, laidKinds := [.data, .data, .data], laidTests := true, laidLooks := .later }
def WholeLostUptoCardSaid : Prop := Claim7.holds Tryz.pinned (.plain (OpenSpec.upto wholeLostSpec)) wholeLostUptoCard
end Rows
end Go.Proofs.YtdakkaapokhnnaaGreatDoor
