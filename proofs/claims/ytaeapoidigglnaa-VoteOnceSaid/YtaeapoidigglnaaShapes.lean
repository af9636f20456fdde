/-
  The shapes of this seat's argument types. No condition.
-/
import Derived.Test.YtaeapoidigglnaaTypes
import Derived.Test.YtaeapoidigglnaaOpen
namespace Go.Proofs.Ytaeapoidigglnaa
theorem cr3 : CR Try.prog 3 [pInt] := CR.int (by kernel_rfl) (by kernel_rfl)
theorem cr4 : CR Try.prog 4 [pBool] := CR.bool (by kernel_rfl) (by kernel_rfl)
theorem st25 : Try.prog.underlying 25 = some (.struct (Try.prog.fieldsOf 25)) := by kernel_rfl
theorem st27 : Try.prog.underlying 27 = some (.struct (Try.prog.fieldsOf 27)) := by kernel_rfl
theorem st31 : Try.prog.underlying 31 = some (.struct (Try.prog.fieldsOf 31)) := by kernel_rfl
theorem cr25 : CR Try.prog 25 [pInt, pInt] := CR.struct (l := [(3, 0), (3, 1)]) st25 (by kernel_rfl) (by kernel_rfl) (.cons cr3 (.cons cr3 .nil))
theorem cr27 : CR Try.prog 27 [pInt, pInt, pInt] := CR.struct (l := [(3, 0), (3, 1), (3, 2)]) st27 (by kernel_rfl) (by kernel_rfl) (.cons cr3 (.cons cr3 (.cons cr3 .nil)))
theorem cr31 : CR Try.prog 31 [pBool, pInt, pInt, pInt, pInt, pInt, pInt] := CR.struct (l := [(4, 0), (3, 1), (25, 2), (27, 4)]) st31 (by kernel_rfl) (by kernel_rfl) (.cons cr4 (.cons cr3 (.cons cr25 (.cons cr27 .nil))))
theorem cr22 : CR Try.prog 22 [pSlice [pBool, pInt, pInt, pInt, pInt, pInt, pInt]] := CR.slice (by_ := 56) Try.underlying22 cr31 (by kernel_rfl) (by decide) (by kernel_rfl) (by decide)
end Go.Proofs.Ytaeapoidigglnaa
