/-
  A machine's row of five. No condition.
-/
import Derived.Test.YthncfjfgjdeajaaRow4
namespace Go.Proofs.Ythncfjfgjdeajaa
open Go.RowKit
/-- a machine's row in a mirror's numbers -/
def rowOf (zs : List Int) (who : Int) : List Int := if machB who = true then sub zs (who.toNat * 174) 174 else nau 174
theorem rowOf_len (zs : List Int) (who : Int) (hz : zs.length = 870) : (rowOf zs who).length = 174 := by
  unfold rowOf
  split
  · rename_i h
    obtain ⟨h0, h5⟩ := mach_of h
    rw [sub_len]; omega
  · exact nau_len 174
end Go.Proofs.Ythncfjfgjdeajaa
