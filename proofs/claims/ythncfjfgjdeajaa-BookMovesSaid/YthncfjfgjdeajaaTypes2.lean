/-
  Closed facts on the types of layers 5 and 14: how many cells, their zero values. No condition.
-/
import Derived.Test.YthncfjfgjdeajaaTypes
import Derived.Test.YthncfjfgjdeajaaShapes
import Derived.Test.YthncfjfgjdeajaaBoolMem
namespace Go.Proofs.Ythncfjfgjdeajaa
theorem agg42 : AggT Try.prog 42 2 := ⟨by kernel_rfl, by kernel_rfl⟩
theorem agg47 : AggT Try.prog 47 870 := ⟨by kernel_rfl, by kernel_rfl⟩
theorem agg48 : AggT Try.prog 48 5 := ⟨by kernel_rfl, by kernel_rfl⟩
theorem agg52 : AggT Try.prog 52 176 := ⟨by kernel_rfl, by kernel_rfl⟩
theorem agg70 : AggT Try.prog 70 3 := ⟨by kernel_rfl, by kernel_rfl⟩
theorem agg73 : AggT Try.prog 73 870 := ⟨by kernel_rfl, by kernel_rfl⟩
theorem zi47 : ZeroI Try.prog 47 870 := by unfold ZeroI; kernel_rfl
theorem zi73 : ZeroI Try.prog 73 870 := by unfold ZeroI; kernel_rfl
theorem kn47 : KnownT Try.prog 47 := by unfold KnownT; kernel_rfl
theorem arr42 : ArrT Try.prog 42 2 3 1 := ⟨by kernel_rfl, by kernel_rfl⟩
theorem arr47 : ArrT Try.prog 47 5 28 174 := ⟨by kernel_rfl, by kernel_rfl⟩
theorem arr70 : ArrT Try.prog 70 3 3 1 := ⟨by kernel_rfl, by kernel_rfl⟩
theorem zm50 : ZeroM Try.prog 50 870 5 := by unfold ZeroM; kernel_rfl
theorem zb48 : ZeroB Try.prog 48 5 := by unfold ZeroB; kernel_rfl
theorem st52 : Try.prog.underlying 52 = some (.struct (Try.prog.fieldsOf 52)) := by kernel_rfl
theorem ci42 : CRI Try.prog 42 2 := CRI.array arr42.und ci3 (by kernel_rfl)
theorem ci70 : CRI Try.prog 70 3 := CRI.array arr70.und ci3 (by kernel_rfl)
theorem ci52 : CRI Try.prog 52 176 := CRI.struct (l := [(3, 0), (3, 1), (28, 2)]) st52 (by kernel_rfl) (by kernel_rfl) (.cons ci3 (.cons ci3 (.cons ci28 .nil)))
set_option maxRecDepth 100000 in
theorem cr46 : CR Try.prog 46 [pSlice (List.replicate 176 pInt)] := CR.slice (by_ := 1408) Try.underlying46 ci52 (by kernel_rfl) (by decide) (by kernel_rfl) (by decide)
set_option maxRecDepth 100000 in
theorem cr60 : CR Try.prog 60 [pSlice (List.replicate 174 pInt)] := CR.slice (by_ := 1392) Try.underlying60 ci28 (by kernel_rfl) (by decide) (by kernel_rfl) (by decide)
theorem cr37 : CR Try.prog 37 [pSlice (List.replicate 1 pInt)] := CR.slice (by_ := 8) Try.underlying37 ci3 (by kernel_rfl) (by decide) (by kernel_rfl) (by decide)
end Go.Proofs.Ythncfjfgjdeajaa
