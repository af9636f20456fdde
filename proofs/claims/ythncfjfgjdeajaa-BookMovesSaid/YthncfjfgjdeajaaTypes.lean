/-
  Closed facts on the types of this seat: how many cells, their zero values. No condition.
-/
import Derived.Test.YthncfjfgjdeajaaChecked
import Derived.Test.YthncfjfgjdeajaaIntMem
import Derived.Test.YthncfjfgjdeajaaBase
namespace Go.Proofs.Ythncfjfgjdeajaa
theorem mixed : Try.prog.follows .mixedOrders = true := by kernel_rfl
theorem agg22 : AggT Try.prog 22 5 := ⟨by kernel_rfl, by kernel_rfl⟩
theorem agg24 : AggT Try.prog 24 7 := ⟨by kernel_rfl, by kernel_rfl⟩
theorem agg25 : AggT Try.prog 25 28 := ⟨by kernel_rfl, by kernel_rfl⟩
theorem agg26 : AggT Try.prog 26 140 := ⟨by kernel_rfl, by kernel_rfl⟩
theorem agg28 : AggT Try.prog 28 174 := ⟨by kernel_rfl, by kernel_rfl⟩
theorem one3 : OneT Try.prog 3 := ⟨by kernel_rfl, by kernel_rfl⟩
theorem one4 : OneT Try.prog 4 := ⟨by kernel_rfl, by kernel_rfl⟩
theorem one31 : OneT Try.prog 31 := ⟨by kernel_rfl, by kernel_rfl⟩
theorem zi22 : ZeroI Try.prog 22 5 := by unfold ZeroI; kernel_rfl
theorem zi24 : ZeroI Try.prog 24 7 := by unfold ZeroI; kernel_rfl
theorem zi25 : ZeroI Try.prog 25 28 := by unfold ZeroI; kernel_rfl
theorem zi26 : ZeroI Try.prog 26 140 := by unfold ZeroI; kernel_rfl
theorem zi28 : ZeroI Try.prog 28 174 := by unfold ZeroI; kernel_rfl
theorem kn22 : KnownT Try.prog 22 := by unfold KnownT; kernel_rfl
theorem kn24 : KnownT Try.prog 24 := by unfold KnownT; kernel_rfl
theorem kn25 : KnownT Try.prog 25 := by unfold KnownT; kernel_rfl
theorem kn26 : KnownT Try.prog 26 := by unfold KnownT; kernel_rfl
theorem kn28 : KnownT Try.prog 28 := by unfold KnownT; kernel_rfl
theorem arr22 : ArrT Try.prog 22 5 3 1 := ⟨by kernel_rfl, by kernel_rfl⟩
theorem arr25 : ArrT Try.prog 25 4 24 7 := ⟨by kernel_rfl, by kernel_rfl⟩
theorem arr26 : ArrT Try.prog 26 5 25 28 := ⟨by kernel_rfl, by kernel_rfl⟩
theorem flat3 : Flat Try.prog 3 1 1 := .int (by kernel_rfl) one3 (by decide)
theorem flat22 : Flat Try.prog 22 5 2 := flat_array agg22 arr22.und arr22.size flat3 (by decide)
theorem flat24 : Flat Try.prog 24 7 3 := flat_struct' (l := [(false, 0, 3), (false, 1, 3), (false, 2, 22)]) agg24 (by kernel_rfl) (by kernel_rfl) (by kernel_rfl) (.cons flat3 (by decide) (.cons flat3 (by decide) (.cons flat22 (by decide) .nil)))
theorem flat25 : Flat Try.prog 25 28 4 := flat_array agg25 arr25.und arr25.size flat24 (by decide)
theorem flat26 : Flat Try.prog 26 140 5 := flat_array agg26 arr26.und arr26.size flat25 (by decide)
theorem flat28 : Flat Try.prog 28 174 6 := flat_struct' (l := [(false, 0, 3), (false, 1, 25), (false, 29, 22), (false, 34, 26)]) agg28 (by kernel_rfl) (by kernel_rfl) (by kernel_rfl) (.cons flat3 (by decide) (.cons flat25 (by decide) (.cons flat22 (by decide) (.cons flat26 (by decide) .nil))))
theorem flatT22 : FlatT Try.prog 22 5 := ⟨flat22.weak (by decide), by kernel_rfl⟩
theorem flatT24 : FlatT Try.prog 24 7 := ⟨flat24.weak (by decide), by kernel_rfl⟩
theorem flatT25 : FlatT Try.prog 25 28 := ⟨flat25.weak (by decide), by kernel_rfl⟩
theorem flatT26 : FlatT Try.prog 26 140 := ⟨flat26.weak (by decide), by kernel_rfl⟩
theorem flatT28 : FlatT Try.prog 28 174 := ⟨flat28.weak (by decide), by kernel_rfl⟩
end Go.Proofs.Ythncfjfgjdeajaa
