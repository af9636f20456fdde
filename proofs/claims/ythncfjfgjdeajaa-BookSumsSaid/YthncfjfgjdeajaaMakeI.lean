/-
  A slice of integer rows that the call makes: its block. Conditions: the form's own reach.
-/
import Derived.Test.YthncfjfgjdeajaaSl
import Derived.Test.YthncfjfgjdeajaaIntMem
import Derived.Laws.OwnMore
import Derived.MapKept
namespace Go.Proofs.Ythncfjfgjdeajaa
open Go.RowKit
theorem made_nau (n q : Nat) : madeCells (ia (nau q)).cells (n * q) = ((nau (n * q)).map (Value.int .i64)).toArray := by
  apply Array.ext
  · simp [size_madeCells, nau]
  · intro i h1 h2
    have hi : i < n * q := by simpa [size_madeCells] using h1
    have hq : 0 < q := by
      rcases Nat.eq_zero_or_pos q with h | h
      · subst h; simp at hi
      · exact h
    have hm := Nat.mod_lt i hq
    simp [madeCells, ia_cells, nau, hm]
section
variable {P : Program} {ops : Array Oper} {Q : Exit → Act → World → Prop} {a : Act} {rest : List Oper} {T : List Nat} {w0 w : World} {m : List Res} {dst : Option Tmp} {ty : TypeId} {pos : String} {af : Array Edge}
theorem wpList_make_ia {t e q bytes n : Nat} {kl kc : IntKind} {x y : Operand} (hI : Inv T w0 w m) (hT : SlT P t e q bytes (ia (nau q))) (hx : a.eval x = .int kl (n : Int)) (hy : a.eval y = .int kc (n : Int)) (hb : bytes * n ≤ 281474976710656) (h63 : n ≤ 4611686018427387904)
    (k : ∀ b w', Inv T w0 w' (ib b e (nau (n * q)) :: m) → wpList P ops Q rest (a.put dst (.slice (some ⟨b, 0, none⟩) n n)) w') :
    wpList P ops Q (⟨dst, .makeSlice t x y, ty, pos, af, none⟩ :: rest) a w :=
  wpList_plain rfl fun K hK => by
    obtain ⟨i, hi, hz, rfl, rfl⟩ := hT.info
    have hb' : (i.bytes : Int) * (n : Int) ≤ 281474976710656 := by
      have h : ((i.bytes * n : Nat) : Int) ≤ 281474976710656 := by omega
      rwa [Int.natCast_mul] at h
    have hr := run_make (P := P) w t e i _ hT.und hi hz kl kc n n (by omega) (Int.le_refl _) hb' (by omega)
    simp only [Int.toNat_natCast] at hr
    rw [made_nau] at hr
    unfold Oper.wp execOp
    simp only [hx, hy, Sem.run_bind, hr, Result.andThen_ok, Sem.run_pure]
    refine hK _ _ (k w.heap.size (w.alloc (.cells ((nau (n * i.size)).map (Value.int .i64)).toArray e)) ?_)
    have hsz : (w.alloc (.cells ((nau (n * i.size)).map (Value.int .i64)).toArray e)).heap.size = w.heap.size + 1 := by show (w.heap.push _).size = _; simp
    exact hI.new ⟨rfl, rfl, rfl, by omega, fun j hj _ => (MapKept.heap_alloc w _).2 j hj⟩ (MapKept.heap_alloc w _).1 (by intro j hj; simp [ib, blk] at hj; omega) (by simp [ib, blk])
end
end Go.Proofs.Ythncfjfgjdeajaa
