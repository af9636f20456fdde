/-
  A slice of integers that came in, as a list of numbers. Conditions: the form's own reach.
-/
import Derived.Test.YtaeapoidigglnaaOpen2
import Derived.Test.YtaeapoidigglnaaSl
namespace Go.Proofs.Ytaeapoidigglnaa
open Go.RowKit
theorem sl_ints {w : World} {a : Option Addr} {len c : Nat} {row : Nat → List Value} (h : SlArg w a len c [pInt] row) :
    ∃ zs : List Int, zs.length = len ∧ Rd w a (zs.map (Value.int .i64)) ∧ (∀ z ∈ zs, (Lit.int .i64 z).wf = true) := by
  have each : ∀ i, ∃ z : Int, i < len → (Lit.int .i64 z).wf = true ∧ ∃ b off, a = some ⟨b, off, none⟩ ∧ w.cell? ⟨b, off + i, none⟩ = some (.int .i64 z) := by
    intro i
    by_cases hi : i < len
    · obtain ⟨hall, b, off, ha, hc⟩ := h.row i hi
      obtain ⟨v, vs, hr, ⟨z, rfl, hz⟩, hv⟩ := hall.un
      obtain rfl := hv.done
      refine ⟨z, fun _ => ⟨hz, b, off, ha, ?_⟩⟩
      have h0 := hc 0 (by rw [hr]; simp)
      simp only [hr, List.length_cons, List.length_nil, Nat.mul_one, Nat.zero_add, Nat.add_zero, List.getElem_cons_zero] at h0
      exact h0
    · exact ⟨0, fun h => absurd h hi⟩
  obtain ⟨f, hf⟩ := Classical.axiomOfChoice each
  refine ⟨(List.range len).map f, by simp, fun j u hj => ?_, fun z hz => ?_⟩
  · simp only [List.getElem?_map, Option.map_eq_some_iff] at hj
    obtain ⟨z, ⟨i, hi, rfl⟩, rfl⟩ := hj
    obtain ⟨hlt, hi⟩ := List.getElem?_eq_some_iff.1 hi
    simp only [List.getElem_range] at hi
    subst hi
    obtain ⟨_, b, off, ha, hc⟩ := hf j (by simpa using hlt)
    exact ⟨b, off, ha, hc⟩
  · obtain ⟨i, hi, rfl⟩ := List.mem_map.1 hz
    exact (hf i (by simpa using hi)).1
end Go.Proofs.Ytaeapoidigglnaa
