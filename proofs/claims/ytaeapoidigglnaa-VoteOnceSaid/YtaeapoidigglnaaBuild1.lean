/-
  The rule for a struct of integers of which one field is named. No condition.
-/
import Derived.Test.YtaeapoidigglnaaIntMem
namespace Go.Proofs.Ytaeapoidigglnaa
open Go.RowKit
section
variable {P : Program} {ops : Array Oper} {Q : Exit → Act → World → Prop} {a : Act} {rest : List Oper} {T : List Nat} {w0 w : World} {m m' : List Res} {dst : Option Tmp} {ty : TypeId} {pos : String} {af : Array Edge}
def placeOf (P : Program) (f : Field) : Nat × Nat := (f.offset, ((P.info? f.type).map (·.size)).getD 0)
theorem run_mapM_places (l : List Field) (h : ∀ f ∈ l, (P.info? f.type).isSome = true) (w : World) : (l.mapM (fun f => do pure (f.offset, ← sizeOf f.type) : Field → Sem (Nat × Nat))).run P w = .ok (l.map (placeOf P)) w := by
  induction l with
  | nil => rfl
  | cons f l ih =>
    have hr := ih (fun g hg => h g (by simp [hg]))
    obtain ⟨i, hi⟩ := Option.isSome_iff_exists.1 (h f (by simp))
    have hp : placeOf P f = (f.offset, i.size) := by unfold placeOf; rw [hi]; rfl
    rw [List.mapM_cons, List.map_cons, hp]
    simp only [Sem.run_bind, run_sizeOf' (show (P.info? f.type).map (·.size) = some i.size by rw [hi]; rfl), Result.andThen_ok, Sem.run_pure, hr]
/-- a struct's i-th field has one cell, the one at off -/
def FieldT (P : Program) (t i off : Nat) : Prop := ∃ fs : Array Field, P.underlying t = some (.struct fs) ∧ (fs.toList.all (fun f => (P.info? f.type).isSome)) = true ∧ (fs.toList[i]?).map (placeOf P) = some (off, 1)
theorem wpList_build1_ia {t n i off : Nat} {x : Operand} {v : Int} (hv : a.eval x = .int .i64 v) (hz : ZeroI P t n) (hF : FieldT P t i off) (ho : off < n)
    (k : wpList P ops Q rest (a.put dst (ia ((nau n).set off v))) w) : wpList P ops Q (⟨dst, .build t #[(i, x)], ty, pos, af, none⟩ :: rest) a w := by
  refine wpList_yld ?_ k
  obtain ⟨fs, hu, hK, hi⟩ := hF
  have hz2 : (P.info? t).map (·.zero) = some (some (ia (nau n))) := hz
  obtain ⟨inf, hinf, hz'⟩ := Option.map_eq_some_iff.1 hz2
  have hzv : (zeroValue t).run P w = .ok (ia (nau n)) w := by simp [zeroValue, typeInfo, hinf, hz']
  have hr := run_mapM_places (P := P) fs.toList (List.all_eq_true.1 hK) w
  have hpl : Option.map (placeOf P) fs[i]? = some (off, 1) := by simpa using hi
  unfold Yld execOp
  simp only [List.map_toArray, List.map_cons, List.map_nil, hv, Instr.build, Sem.run_bind, hzv, Result.andThen_ok, run_underlying hu]
  rw [← Array.toArray_toList (xs := fs), List.mapM_toArray]
  have hc : (Value.int .i64 v).cells = #[.int .i64 v] := rfl
  simp only [Sem.run_map, hr, Instr.fill, ia_cells]
  simp [hpl, hc, nau_len, show off + 1 ≤ n from ho, show ¬ n < off + 1 from by omega, ia, List.map_set]
theorem wpList_build1_as {t n i off : Nat} {x : Operand} {v : Int} {zs : List Int} (hv : a.eval x = .int .i64 v) (hz : ZeroI P t n) (hF : FieldT P t i off) (ho : off < n) (hzs : (nau n).set off v = zs)
    (k : wpList P ops Q rest (a.put dst (ia zs)) w) : wpList P ops Q (⟨dst, .build t #[(i, x)], ty, pos, af, none⟩ :: rest) a w :=
  wpList_build1_ia hv hz hF ho (by rw [hzs]; exact k)
/-- the same is the same -/
theorem wpList_eq_same {x y : Operand} {t t' n : Nat} {zs : List Int} (hx : a.eval x = ia zs) (hy : a.eval y = ia zs) (hT : AggT P t n) (hF : FlatT P t n) (h1 : zs.length = n)
    (k : wpList P ops Q rest (a.put dst (.bool true)) w) : wpList P ops Q (⟨dst, .binOp .eql t x y t', ty, pos, af, none⟩ :: rest) a w :=
  wpList_eq_ia hx hy hT hF h1 h1 (by simpa using k)
theorem wpList_ne_same {x y : Operand} {t t' n : Nat} {zs : List Int} (hx : a.eval x = ia zs) (hy : a.eval y = ia zs) (hT : AggT P t n) (hF : FlatT P t n) (h1 : zs.length = n)
    (k : wpList P ops Q rest (a.put dst (.bool false)) w) : wpList P ops Q (⟨dst, .binOp .neq t x y t', ty, pos, af, none⟩ :: rest) a w :=
  wpList_ne_ia hx hy hT hF h1 h1 (by simpa using k)
end
end Go.Proofs.Ytaeapoidigglnaa
