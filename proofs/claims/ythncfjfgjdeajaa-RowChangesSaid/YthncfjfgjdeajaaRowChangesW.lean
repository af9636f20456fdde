/-
  The law RowChanges: its walk. No condition.
-/
import Derived.Test.YthncfjfgjdeajaaRowChg0
import Derived.Test.YthncfjfgjdeajaaRowChg1
import Derived.Test.YthncfjfgjdeajaaRowChg2
namespace Go.Proofs.Ythncfjfgjdeajaa
open Go.RowKit
theorem changes_walk (w0 : World) (x how : List Int) (n0 : Int) (hx : x.length = 174) (hh : how.length = 2) (hw0 : Wf x) :
    Calls Try.prog 8 #[ia x, ia how, .int .i64 n0] w0 fun e w' => e = .returned (.bool true) ∧ Below w0.heap.size w0 w' := by
  have hk := and_range n0 3 (by decide)
  simp at hk
  have h : (bits BinOp.and IntKind.i64 n0 3).tmod 3 = 0 ∨ (bits BinOp.and IntKind.i64 n0 3).tmod 3 = 1 ∨ (bits BinOp.and IntKind.i64 n0 3).tmod 3 = 2 := by
    generalize bits BinOp.and IntKind.i64 n0 3 = q at *
    have hq : q = 0 ∨ q = 1 ∨ q = 2 ∨ q = 3 := by omega
    rcases hq with rfl | rfl | rfl | rfl <;> decide
  rcases h with h | h | h
  · exact changes_0 w0 x how n0 hx hh hw0 (Lib.hid h)
  · exact changes_1 w0 x how n0 hx hh hw0 (Lib.hid h)
  · exact changes_2 w0 x how n0 hx hh hw0 (Lib.hid h)
end Go.Proofs.Ythncfjfgjdeajaa
