/-
  []byte(s): a row of the call's own that bears the run-time's mark. No condition.
-/
import Derived.Test.YtckoiabainpamaaByt
import Derived.Laws.IdiomStrings
import Derived.MapKept
namespace Go.Proofs.Ytckoiabainpamaa
open Go.RowKit
/-- a row of bytes, marked behind its end -/
def mkr (b : Nat) (cs : List Value) : Res := ⟨[b], fun w => ∃ ext : List Value, w.heap[b]? = some (.cells (cs ++ ext).toArray 5 ((cs ++ ext).length, (cs ++ ext).length + 1)), fun w w' h hs => by
  obtain ⟨ext, h1⟩ := hs
  exact ⟨ext, by rw [h b (by simp)]; exact h1⟩⟩
theorem mkr_cell {w : World} {b : Nat} {cs : List Value} (hs : (mkr b cs).sat w) (j : Nat) (hj : j < cs.length) : w.cell? ⟨b, j, none⟩ = some cs[j] := by
  obtain ⟨ext, h⟩ := hs
  rw [cell_blk h, List.getElem?_append_left hj]
  simp [hj]
theorem mkr_rd {w : World} {b : Nat} {cs : List Value} (hs : (mkr b cs).sat w) : Rd w (some ⟨b, 0, none⟩) cs := by
  intro j u hj
  obtain ⟨h1, h2⟩ := List.getElem?_eq_some_iff.1 hj
  refine ⟨b, 0, rfl, ?_⟩
  rw [Nat.zero_add, mkr_cell hs j h1, h2]
section
variable {P : Program} {ops : Array Oper} {Q : Exit → Act → World → Prop} {a : Act} {rest : List Oper} {T : List Nat} {w0 w : World} {m m' : List Res} {dst : Option Tmp} {ty : TypeId} {pos : String} {af : Array Edge}
theorem wpList_tobytes {x : Operand} {src t : TypeId} {bs : List UInt8} (hI : Inv T w0 w m) (hs : P.underlying src = some .string) (hd : P.underlying t = some (.slice 5)) (he : P.underlying 5 = some (.int .u8)) (hx : a.eval x = .string ⟨bs.toArray⟩)
    (k : ∀ b cp w', Inv T w0 w' (mkr b (bs.map bv) :: m) → wpList P ops Q rest (a.put dst (.slice (some ⟨b, 0, none⟩) bs.length cp)) w') : wpList P ops Q (⟨dst, .convert src t x, ty, pos, af, none⟩ :: rest) a w :=
  wpList_plain rfl fun K hK => by
    have hr := run_bytes_of_string (P := P) w src t 5 ⟨bs.toArray⟩ hs hd he
    unfold Oper.wp execOp
    simp only [hx, Sem.run_bind, hr, Result.andThen_ok, Sem.run_pure]
    refine hK _ _ (k w.heap.size _ _ ?_)
    have e : ∀ cap, bytesRow ⟨bs.toArray⟩ cap = (bs.map bv ++ List.replicate (cap - bs.length) (Value.int .u8 0)).toArray := fun cap => by
      unfold bytesRow
      simp [bv, ByteArray.size]
    rw [e]
    generalize grownCap w _ 0 5 = cap
    generalize hobj : Obj.cells (bs.map bv ++ List.replicate (cap - bs.length) (Value.int .u8 0)).toArray 5 ((bs.map bv ++ List.replicate (cap - bs.length) (Value.int .u8 0)).toArray.size, (bs.map bv ++ List.replicate (cap - bs.length) (Value.int .u8 0)).toArray.size + 1) = o
    have hsz : (w.drew.alloc o).heap.size = w.heap.size + 1 := by show (w.heap.push _).size = _; simp
    have hst : Step [] w (w.drew.alloc o) := ⟨rfl, rfl, rfl, by omega, fun j hj _ => (MapKept.heap_alloc w.drew _).2 j hj⟩
    have hnew : (w.drew.alloc o).heap[w.heap.size]? = some o := (MapKept.heap_alloc w.drew o).1
    refine hI.new hst ⟨List.replicate (cap - bs.length) (Value.int .u8 0), ?_⟩ (by intro i hi; simp [mkr] at hi; omega) (by simp [mkr])
    rw [hnew, ← hobj]
    simp
theorem wpList_load_mkr {x : Operand} {t b j : Nat} {cs : List Value} {v : Value} (hI : Inv T w0 w m) (hx : a.eval x = .pointer (some ⟨b, j, none⟩)) (hm : mkr b cs ∈ m) (hT : OneT P t) (hv : cs[j]? = some v)
    (k : wpList P ops Q rest (a.put dst v) w) : wpList P ops Q (⟨dst, .load t x, ty, pos, af, none⟩ :: rest) a w := by
  refine wpList_yld ?_ k
  obtain ⟨hj, hvj⟩ := List.getElem?_eq_some_iff.1 hv
  have hc := mkr_cell (hI.sat _ hm) j hj
  rw [hvj] at hc
  unfold Yld execOp
  simp [hx, Instr.loadAt, Instr.sureAddr, Sem.run_bind, Sem.run_pure, Result.andThen_ok, loadVar, hT.isAgg, load, Sem.run, hc]
theorem wpList_store_mkr {x y : Operand} {t b j : Nat} {v : Int} {cs : List Value} (hI : Inv T w0 w m) (hx : a.eval x = .pointer (some ⟨b, j, none⟩)) (hv : a.eval y = .int .u8 v) (hu : Upd (mkr b cs) (mkr b (cs.set j (.int .u8 v))) m m')
    (hn : (P.info? t).map (·.size) = some 1) (hj : j < cs.length)
    (k : ∀ w', Inv T w0 w' m' → wpList P ops Q rest (a.put dst undef) w') : wpList P ops Q (⟨dst, .store t x y, ty, pos, af, none⟩ :: rest) a w :=
  wpList_plain rfl fun K hK => by
    have hs : (mkr b cs).sat w := by
      obtain ⟨m1, m2, rfl, _⟩ := hu.split
      exact hI.sat _ (by simp)
    have hc := mkr_cell hs j hj
    obtain ⟨ext, hb⟩ := hs
    have hfz : w.frozen? ⟨b, j, none⟩ = false := by simp [World.frozen?, hb]; omega
    have hb' : (w.setCell ⟨b, j, none⟩ (.int .u8 v)).heap[b]? = some (.cells (cs.set j (.int .u8 v) ++ ext).toArray 5 ((cs.set j (.int .u8 v) ++ ext).length, (cs.set j (.int .u8 v) ++ ext).length + 1)) := by
      simp [World.setCell, Array.getElem?_modify, hb, List.set_append_left _ _ hj]
    have hst : Step [b] w (w.setCell ⟨b, j, none⟩ (.int .u8 v)) := ⟨rfl, rfl, rfl, by simp [World.setCell], fun k _ hk => by
      simp only [World.setCell, Array.getElem?_modify]
      rw [if_neg (by simp at hk; omega)]⟩
    have hr1 : (store ((⟨b, j, none⟩ : Addr).add 0) (.int .u8 v)).run P w = .ok () (w.setCell ⟨b, j, none⟩ (.int .u8 v)) := by
      rw [addr_add', Nat.add_zero, store]
      simp [Sem.run, hc, hfz]
    have hsc : (storeCells ⟨b, j, none⟩ [Value.int .u8 v] 0).run P w = .ok () (w.setCell ⟨b, j, none⟩ (.int .u8 v)) := by
      rw [storeCells, Sem.run_bind, hr1, Result.andThen_ok]
      simp [storeCells]
    have hr : (storeVar t ⟨b, j, none⟩ (.int .u8 v)).run P w = .ok () (w.setCell ⟨b, j, none⟩ (.int .u8 v)) := by
      rw [storeVar, Sem.run_bind, run_sizeOf' hn, Result.andThen_ok, show (Value.int .u8 v).cells = [Value.int .u8 v].toArray from rfl]
      simp only [List.size_toArray, List.length_singleton, ne_eq, not_true_eq_false, if_false]
      first | exact hsc | (simp; exact hsc)
    unfold Oper.wp execOp
    simp only [hx, hv, Instr.storeAt, Instr.sureAddr, Sem.run_bind, Sem.run_pure, Result.andThen_ok, hr]
    refine hK _ _ (k _ (hI.upd hu hst ⟨ext, hb'⟩ (fun i hi => .inl hi) (by simp [mkr])))
end
end Go.Proofs.Ytckoiabainpamaa
