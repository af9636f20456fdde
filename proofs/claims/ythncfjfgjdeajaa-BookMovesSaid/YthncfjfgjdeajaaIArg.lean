/-
  An argument that is a slice of rows of integers. No condition.
-/
import Derived.Test.YthncfjfgjdeajaaOpenI
import Derived.Test.YthncfjfgjdeajaaOpenR
namespace Go.Proofs.Ythncfjfgjdeajaa
open Go.RowKit
/-- an argument: a slice of rows of k integers -/
structure IArg (w : World) (a : Option Addr) (len k : Nat) (row : Nat → List Int) : Prop where
  reach : len ≤ 140737488351232
  row : ∀ i, i < len → (row i).length = k ∧ (∀ j, -9223372036854775808 ≤ gi (row i) j ∧ gi (row i) j ≤ 9223372036854775807) ∧ ∃ b off, a = some ⟨b, off, none⟩ ∧ CellsAt w b (off + i * k) ((row i).map (Value.int .i64))
theorem SlArg.ints {w : World} {a : Option Addr} {len c k : Nat} {row : Nat → List Value} (h : SlArg w a len c (List.replicate k pInt) row) : ∃ r, IArg w a len k r := by
  have : ∀ i, ∃ zs : List Int, i < len → (zs.length = k ∧ (∀ j, -9223372036854775808 ≤ gi zs j ∧ gi zs j ≤ 9223372036854775807) ∧ ∃ b off, a = some ⟨b, off, none⟩ ∧ CellsAt w b (off + i * k) (zs.map (Value.int .i64))) := by
    intro i
    by_cases hi : i < len
    · obtain ⟨ha, b, off, h1, h2⟩ := h.row i hi
      obtain ⟨zs, hz, hl, hwf⟩ := All2.ints ha
      refine ⟨zs, fun _ => ⟨hl, wf_gi hwf, b, off, h1, ?_⟩⟩
      rw [show zs.map (Value.int .i64) = zs.map iv from rfl, ← hz]
      simpa using h2
    · exact ⟨[], fun h => absurd h hi⟩
  exact ⟨fun i => (this i).choose, ⟨Nat.le_trans h.le h.reach, fun i hi => (this i).choose_spec hi⟩⟩
theorem IArg.later {w w0 : World} {a : Option Addr} {len k : Nat} {row : Nat → List Int} {m : List Res} (h : IArg w0 a len k row) (hI : Inv [] w0 w m) : IArg w a len k row :=
  ⟨h.reach, fun i hi => ⟨(h.row i hi).1, (h.row i hi).2.1, by
    obtain ⟨b, off, h1, h2⟩ := (h.row i hi).2.2
    exact ⟨b, off, h1, h2.later hI (by simp)⟩⟩⟩
/-- two numbers behind an argument's two owned blocks, by name -/
theorem nmb {T : List Nat} {w0 w : World} {a : Nat} {e : TypeId} {cs : List Value} {m : List Res} (_ : Inv T w0 w (blk a e cs :: m)) : ∃ a', a' = a := ⟨a, rfl⟩
end Go.Proofs.Ythncfjfgjdeajaa
