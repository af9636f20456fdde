/-
  The shapes of the views' arguments. No condition.
-/
import Derived.Test.YtaeapoidigglnaaShapes
import Derived.Test.YtaeapoidigglnaaOpenI
namespace Go.Proofs.Ytaeapoidigglnaa
theorem ci27 : CRI Try.prog 27 3 := cr27
theorem cr64 : CR Try.prog 64 [pSlice (List.replicate 3 pInt)] := CR.slice (by_ := 24) Try.underlying64 cr27 (by kernel_rfl) (by decide) (by kernel_rfl) (by decide)
end Go.Proofs.Ytaeapoidigglnaa
