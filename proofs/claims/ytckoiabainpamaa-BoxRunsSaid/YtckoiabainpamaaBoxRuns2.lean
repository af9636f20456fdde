/-
  The law BoxRuns: its walk, from the argument's shape. No condition.
-/
import Derived.Test.YtckoiabainpamaaBoxRuns
namespace Go.Proofs.Ytckoiabainpamaa
open Go.RowKit
theorem runs_cells (w0 : World) (size : Int) (a : Option Addr) (len c : Nat) (row : Nat → List Value) (h : SlArg w0 a len c [pInt, pSlice [pU8]] row) :
    Calls Try.prog 14 #[.int .i64 size, .slice a len c] w0 fun e w' => e = .returned (.bool true) ∧ Below w0.heap.size w0 w' := by
  obtain ⟨rk, ra, rc, rb, hr⟩ := h.carg
  exact runs_walk w0 a len c rk ra rc rb hr size
end Go.Proofs.Ytckoiabainpamaa
