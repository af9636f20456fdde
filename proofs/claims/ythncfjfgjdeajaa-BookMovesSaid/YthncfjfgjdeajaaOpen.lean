/-
  Closed facts on the program that every frame of this seat wants. No condition.
-/
import Derived.Test.YthncfjfgjdeajaaRows
import Derived.Test.YthncfjfgjdeajaaOpenR
import Derived.ShutString
import Derived.ChangeOld
namespace Go.Proofs.Ythncfjfgjdeajaa
theorem own_ : ownKnob Try.prog.godebug = none := by kernel_rfl
theorem laidOut_ : laidOutB Try.prog = true := by kernel_rfl
end Go.Proofs.Ythncfjfgjdeajaa
