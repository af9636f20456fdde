/-
  Closed facts on the types of this seat: how many cells, their zero values. No condition.
-/
import Derived.Test.YtaeapoidigglnaaChecked
import Derived.Test.YtaeapoidigglnaaBase
namespace Go.Proofs.Ytaeapoidigglnaa
theorem mixed : Try.prog.follows .mixedOrders = true := by kernel_rfl
theorem agg25 : AggT Try.prog 25 2 := ⟨by kernel_rfl, by kernel_rfl⟩
theorem agg27 : AggT Try.prog 27 3 := ⟨by kernel_rfl, by kernel_rfl⟩
theorem agg29 : AggT Try.prog 29 8 := ⟨by kernel_rfl, by kernel_rfl⟩
theorem agg31 : AggT Try.prog 31 7 := ⟨by kernel_rfl, by kernel_rfl⟩
theorem one3 : OneT Try.prog 3 := ⟨by kernel_rfl, by kernel_rfl⟩
theorem one4 : OneT Try.prog 4 := ⟨by kernel_rfl, by kernel_rfl⟩
theorem zero25 : (Try.prog.info? 25).map (·.zero) = some (some (.agg #[.int .i64 0, .int .i64 0])) := by kernel_rfl
theorem zero27 : (Try.prog.info? 27).map (·.zero) = some (some (.agg #[.int .i64 0, .int .i64 0, .int .i64 0])) := by kernel_rfl
theorem zero29 : (Try.prog.info? 29).map (·.zero) = some (some (.agg #[.int .i64 0, .int .i64 0, .int .i64 0, .int .i64 0, .int .i64 0, .int .i64 0, .int .i64 0, .int .i64 0])) := by kernel_rfl
theorem zero31 : (Try.prog.info? 31).map (·.zero) = some (some (.agg #[.bool false, .int .i64 0, .int .i64 0, .int .i64 0, .int .i64 0, .int .i64 0, .int .i64 0])) := by kernel_rfl
theorem flat3 : Flat Try.prog 3 1 1 := .int (by kernel_rfl) one3 (by decide)
theorem flat25 : Flat Try.prog 25 2 2 := flat_struct' (l := [(false, 0, 3), (false, 1, 3)]) agg25 (by kernel_rfl) (by kernel_rfl) (by kernel_rfl) (.cons flat3 (by decide) (.cons flat3 (by decide) .nil))
theorem flat27 : Flat Try.prog 27 3 2 := flat_struct' (l := [(false, 0, 3), (false, 1, 3), (false, 2, 3)]) agg27 (by kernel_rfl) (by kernel_rfl) (by kernel_rfl) (.cons flat3 (by decide) (.cons flat3 (by decide) (.cons flat3 (by decide) .nil)))
theorem flat29 : Flat Try.prog 29 8 3 := flat_struct' (l := [(false, 0, 3), (false, 1, 25), (false, 3, 25), (false, 5, 27)]) agg29 (by kernel_rfl) (by kernel_rfl) (by kernel_rfl) (.cons flat3 (by decide) (.cons flat25 (by decide) (.cons flat25 (by decide) (.cons flat27 (by decide) .nil))))
theorem flatT25 : FlatT Try.prog 25 2 := ⟨flat25.weak (by decide), by kernel_rfl⟩
theorem flatT27 : FlatT Try.prog 27 3 := ⟨flat27.weak (by decide), by kernel_rfl⟩
theorem flatT29 : FlatT Try.prog 29 8 := ⟨flat29.weak (by decide), by kernel_rfl⟩
end Go.Proofs.Ytaeapoidigglnaa
