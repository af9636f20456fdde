/-
  NumTurns from cells. No condition.
-/
import Derived.Test.YtaeapoidigglnaaNumTurns
namespace Go.Proofs.Ytaeapoidigglnaa
open Go.RowKit
theorem turns_cells (w : World) (a : Option Addr) (len c : Nat) (row : Nat → List Value) (t : Int) (h : SlArg w a len c [pInt] row) :
    Calls Try.prog 8 #[.slice a len c, .int .i64 t] w fun e w' => e = .returned (.bool true) ∧ Below w.heap.size w w' := by
  obtain ⟨zs, rfl, hr, hwf⟩ := sl_ints h
  exact turns_walk w a c zs t hr h.le hwf
end Go.Proofs.Ytaeapoidigglnaa
