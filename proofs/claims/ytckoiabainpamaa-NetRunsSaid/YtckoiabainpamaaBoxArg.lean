/-
  An argument that is a slice of slices of bytes. No condition.
-/
import Derived.Test.YtckoiabainpamaaSumPut
import Derived.Test.YtckoiabainpamaaOpenR
namespace Go.Proofs.Ytckoiabainpamaa
open Go.RowKit
theorem cr5 : CR Try.prog 5 [pU8] := CR.u8 Try.underlying5 (by kernel_rfl)
theorem cr22 : CR Try.prog 22 [pSlice [pU8]] := CR.slice (by_ := 1) Try.underlying22 cr5 (by kernel_rfl) (by decide) (by kernel_rfl) (by decide)
theorem cr39 : CR Try.prog 39 [pSlice [pSlice [pU8]]] := CR.slice (by_ := 24) Try.underlying39 cr22 (by kernel_rfl) (by decide) (by kernel_rfl) (by decide)
theorem SlArg.bytes {w : World} {a : Option Addr} {n c : Nat} {row : Nat → List Value} (h : SlArg w a n c [pU8] row) : ∃ bs : List UInt8, bs.length = n ∧ Rd w a (bs.map bv) := by
  have key : ∀ i, ∃ x : UInt8, i < n → ∃ b off, a = some ⟨b, off, none⟩ ∧ w.cell? ⟨b, off + i, none⟩ = some (bv x) := by
    intro i
    by_cases hi : i < n
    · obtain ⟨ha, b, off, h1, h2⟩ := h.row i hi
      match hrow : row i, ha with
      | [v], ⟨⟨x, hx⟩, _⟩ =>
        refine ⟨x, fun _ => ⟨b, off, h1, ?_⟩⟩
        rw [hrow] at h2
        have := h2 0 (by simp)
        simp only [List.length_singleton, Nat.mul_one, Nat.add_zero, List.getElem_cons_zero] at this
        rw [this, hx]; rfl
    · exact ⟨0, fun h => absurd h hi⟩
  refine ⟨(List.range n).map (fun i => (key i).choose), by simp, fun j u hj => ?_⟩
  simp only [List.getElem?_map, List.map_map] at hj
  by_cases hjn : j < n
  · rw [List.getElem?_range hjn] at hj
    simp only [Option.map_some, Option.some.injEq] at hj
    subst hj
    exact (key j).choose_spec hjn
  · rw [List.getElem?_eq_none (by simp; omega)] at hj
    cases hj
/-- so many slices of bytes -/
structure BArg (w : World) (a : Option Addr) (len : Nat) (ra : Nat → Option Addr) (rc : Nat → Nat) (rb : Nat → List UInt8) : Prop where
  reach : len ≤ 140737488351232
  row : ∀ i, i < len → Rd w (ra i) ((rb i).map bv) ∧ (rb i).length ≤ 140737488351232 ∧ ∃ b off, a = some ⟨b, off, none⟩ ∧ CellsAt w b (off + i) [.slice (ra i) (rb i).length (rc i)]
theorem SlArg.barg {w : World} {a : Option Addr} {len c : Nat} {row : Nat → List Value} (h : SlArg w a len c [pSlice [pU8]] row) : ∃ ra rc rb, BArg w a len ra rc rb := by
  have key : ∀ i, ∃ q : Option Addr × Nat × List UInt8, i < len → Rd w q.1 (q.2.2.map bv) ∧ q.2.2.length ≤ 140737488351232 ∧ ∃ b off, a = some ⟨b, off, none⟩ ∧ CellsAt w b (off + i) [.slice q.1 q.2.2.length q.2.1] := by
    intro i
    by_cases hi : i < len
    · obtain ⟨ha, b, off, h1, h2⟩ := h.row i hi
      match hrow : row i, ha with
      | [v], ⟨⟨a', n, c', row', hv, hs⟩, _⟩ =>
        obtain ⟨bs, hl, hr⟩ := hs.bytes
        refine ⟨(a', c', bs), fun _ => ⟨hr, by rw [hl]; exact Nat.le_trans hs.le hs.reach, b, off, h1, ?_⟩⟩
        rw [hrow, hv] at h2
        rw [hl]
        simpa using h2
    · exact ⟨(none, 0, []), fun h => absurd h hi⟩
  exact ⟨fun i => (key i).choose.1, fun i => (key i).choose.2.1, fun i => (key i).choose.2.2, Nat.le_trans h.le h.reach, fun i hi => (key i).choose_spec hi⟩
end Go.Proofs.Ytckoiabainpamaa
