/-
  NumAdds from cells. No condition.
-/
import Derived.Test.YtaeapoidigglnaaNumAdds
import Derived.Test.YtaeapoidigglnaaShapes
import Derived.Test.YtaeapoidigglnaaOpen3
namespace Go.Proofs.Ytaeapoidigglnaa
open Go.RowKit
theorem cr39 : CR Try.prog 39 [pSlice [pInt]] := CR.slice (by_ := 8) Try.underlying39 cr3 (by kernel_rfl) (by decide) (by kernel_rfl) (by decide)
theorem adds_cells (w : World) (a : Option Addr) (len c : Nat) (row : Nat → List Value) (h : SlArg w a len c [pInt] row) :
    Calls Try.prog 6 #[.slice a len c] w fun e w' => e = .returned (.bool true) ∧ Below w.heap.size w w' := by
  obtain ⟨zs, rfl, hr, _⟩ := sl_ints h
  exact adds_walk w a c zs hr

end Go.Proofs.Ytaeapoidigglnaa
