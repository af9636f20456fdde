/-
  The shapes of this seat's argument types. No condition.
-/
import Derived.Test.YthncfjfgjdeajaaTypes
import Derived.Test.YthncfjfgjdeajaaOpen
import Derived.Test.YthncfjfgjdeajaaOpenI
namespace Go.Proofs.Ythncfjfgjdeajaa
theorem st24 : Try.prog.underlying 24 = some (.struct (Try.prog.fieldsOf 24)) := by kernel_rfl
theorem st28 : Try.prog.underlying 28 = some (.struct (Try.prog.fieldsOf 28)) := by kernel_rfl
theorem ci3 : CRI Try.prog 3 1 := CRI.int (by kernel_rfl) (by kernel_rfl)
theorem ci22 : CRI Try.prog 22 5 := CRI.array arr22.und ci3 (by kernel_rfl)
theorem ci24 : CRI Try.prog 24 7 := CRI.struct (l := [(3, 0), (3, 1), (22, 2)]) st24 (by kernel_rfl) (by kernel_rfl) (.cons ci3 (.cons ci3 (.cons ci22 .nil)))
theorem ci25 : CRI Try.prog 25 28 := CRI.array arr25.und ci24 (by kernel_rfl)
theorem ci26 : CRI Try.prog 26 140 := CRI.array arr26.und ci25 (by kernel_rfl)
theorem ci28 : CRI Try.prog 28 174 := CRI.struct (l := [(3, 0), (25, 1), (22, 29), (26, 34)]) st28 (by kernel_rfl) (by kernel_rfl) (.cons ci3 (.cons ci25 (.cons ci22 (.cons ci26 .nil))))
end Go.Proofs.Ythncfjfgjdeajaa
