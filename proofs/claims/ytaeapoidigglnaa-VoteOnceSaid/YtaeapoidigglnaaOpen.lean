/-
  Closed facts on the program that every frame of this seat wants. No condition.
-/
import Derived.Test.YtaeapoidigglnaaRows
import Derived.Test.YtaeapoidigglnaaOpenR
import Derived.ShutString
import Derived.ChangeOld
namespace Go.Proofs.Ytaeapoidigglnaa
theorem own_ : ownKnob Try.prog.godebug = none := by kernel_rfl
theorem laidOut_ : laidOutB Try.prog = true := by kernel_rfl
end Go.Proofs.Ytaeapoidigglnaa
