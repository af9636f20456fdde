/-
  legateelaw12.BallotLess, from cells. No condition.
-/
import Derived.Test.YtaeapoidigglnaaBallotLess
import Derived.Test.YtaeapoidigglnaaShapes
namespace Go.Proofs.Ytaeapoidigglnaa
open Go.RowKit
theorem two_ints {w : World} {cs : List Value} (h : All2 w [pInt, pInt] cs) : ∃ x y : Int, cs = [.int .i64 x, .int .i64 y] := by
  obtain ⟨zs, rfl, hl, _⟩ := All2.ints (n := 2) h
  match zs, hl with
  | [x, y], _ => exact ⟨x, y, rfl⟩
theorem less_cells (w : World) (c0 c1 c2 : List Value) (h0 : All2 w [pInt, pInt] c0) (h1 : All2 w [pInt, pInt] c1) (h2 : All2 w [pInt, pInt] c2) :
    Calls Try.prog 4 #[.agg c0.toArray, .agg c1.toArray, .agg c2.toArray] w fun e w' => e = .returned (.bool true) ∧ Below w.heap.size w w' := by
  obtain ⟨r1, w1, rfl⟩ := two_ints h0
  obtain ⟨r2, w2, rfl⟩ := two_ints h1
  obtain ⟨r3, w3, rfl⟩ := two_ints h2
  exact less_walk w r1 w1 r2 w2 r3 w3
end Go.Proofs.Ytaeapoidigglnaa
