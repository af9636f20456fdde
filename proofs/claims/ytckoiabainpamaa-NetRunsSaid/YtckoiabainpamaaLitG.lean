/-
  A literal's bytes, where the operation is guarded. No condition.
-/
import Derived.Test.YtckoiabainpamaaLit
namespace Go.Proofs.Ytckoiabainpamaa
open Go.RowKit
section
variable {P : Program} {ops : Array Oper} {Q : Exit → Act → World → Prop} {a : Act} {rest : List Oper} {T : List Nat} {w0 w : World} {m : List Res} {dst dst2 : Option Tmp} {ty ty2 : TypeId} {pos pos2 : String} {af af2 : Array Edge}
/-- []byte(".."), behind '&&' or '||' -/
theorem wpList_litg {t e n : Nat} {parts : Array (Nat × Operand)} {x : Operand} {bs : List UInt8} (hI : Inv T w0 w m) (hT : SlT P t e 1 1 (.int .u8 0)) (he : P.underlying e = some (.int .u8)) (hpos : 0 < n) (hn : n ≤ 16777216) (hbl : bs.length = n)
    (hf : Instr.fill (fun i => some (i * 1, 1)) ((Array.range (n * 1)).map ((Value.int .u8 0).cells[· % (Value.int .u8 0).cells.size]!)) (parts.map fun (i, x) => (i, a.eval x)).toList = some (bs.map bv).toArray)
    (hx : (a.put dst (.slice (some ⟨w.heap.size, 0, none⟩) n n)).eval x = .slice (some ⟨w.heap.size, 0, none⟩) n n)
    {j0 : Nat} {want : Bool} (hy : yielded ops (a.put dst (.slice (some ⟨w.heap.size, 0, none⟩) n n)).tmps j0 = some want)
    (k : ∀ b w', Inv T w0 w' (rdr b (bs.map bv) :: m) → b = w.heap.size → w'.heap.size = w.heap.size + 1 → wpList P ops Q rest ((a.put dst (.slice (some ⟨b, 0, none⟩) n n)).put dst2 (.slice (some ⟨b, 0, none⟩) n n)) w') :
    wpList P ops Q (⟨dst, .buildSlice t n parts, ty, pos, af, none⟩ :: ⟨dst2, .convert t t x, ty2, pos2, af2, some (j0, want)⟩ :: rest) a w :=
  wpList_plain rfl fun K hK => by
    obtain ⟨i, hi, hz, hs1, hs2⟩ := hT.info
    have hrun : (Instr.buildSlice t n (parts.map fun (i, x) => (i, a.eval x))).run P w = .ok (.slice (some ⟨w.heap.size, 0, none⟩) n n) (w.alloc (.cells (bs.map bv).toArray e)) := by
      have hzv : (zeroValue e).run P w = .ok (.int .u8 0) w := by simp [zeroValue, typeInfo, hi, hz]
      have h1 : ¬ n * 1 > 2 ^ 24 := by omega
      have h2 : ¬ n * 1 = 0 := by omega
      simp only [Instr.buildSlice, Sem.run_bind, run_underlying hT.und, Result.andThen_ok, run_sizeOf' (show (P.info? e).map (·.size) = some 1 by rw [hi, ← hs1]; rfl), if_neg h1, if_neg h2, Sem.run_pure, hzv, hf]
      rfl
    unfold Oper.wp execOp
    simp only [Sem.run_bind, hrun, Result.andThen_ok, Sem.run_pure]
    refine hK _ _ ?_
    refine wpList_on hy ?_
    refine wpList_plain rfl fun K2 hK2 => ?_
    have hcv := Lib.run_convert_bytes_const (P := P) w t e (bs.map bv).toArray n n hT.und he
    unfold Oper.wp execOp
    simp only [hx, Sem.run_bind, hcv, Result.andThen_ok, Sem.run_pure]
    refine hK2 _ _ (k w.heap.size _ ?_ rfl (by simp))
    refine hI.new ⟨rfl, rfl, rfl, by simp, fun k hk _ => _root_.Go.heap_alloc_old w _ hk⟩ ?_ (by simp [Go.Proofs.Ytckoiabainpamaa.rdr]) (by simp [Go.Proofs.Ytckoiabainpamaa.rdr])
    intro j u hj
    refine ⟨w.heap.size, 0, rfl, ?_⟩
    rw [World.cell?_alloc_mark]
    simpa using hj
end
end Go.Proofs.Ytckoiabainpamaa
