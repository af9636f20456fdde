/-
  A map literal's map, entry by entry. No condition.
-/
import Derived.Test.YtckoiabainpamaaRules
import Derived.MapKept
namespace Go.Proofs.Ytckoiabainpamaa
open Go.RowKit
/-- a map of these entries -/
def mpx (r : Nat) (es : List MapEntry) (clock : Nat) : Res :=
  ⟨[r], fun w => w.heap[r]? = some (.map es.toArray clock), fun w w' h hs => by rw [h r (by simp)]; exact hs⟩
section
variable {P : Program} {ops : Array Oper} {Q : Exit → Act → World → Prop} {a : Act} {rest : List Oper} {T : List Nat} {w0 w : World} {m m' : List Res} {dst : Option Tmp} {ty : TypeId} {pos : String} {af : Array Edge}
theorem wpList_makeMapX {t : TypeId} (hI : Inv T w0 w m)
    (k : ∀ r w', Inv T w0 w' (mpx r [] 0 :: m) → wpList P ops Q rest (a.put dst (.map (some r))) w') : wpList P ops Q (⟨dst, .makeMap t none, ty, pos, af, none⟩ :: rest) a w :=
  wpList_plain rfl fun K hK => by
    have hr : (Instr.makeMap t none).run P w = .ok (.map (some w.heap.size)) (w.alloc (.map #[] 0)) := rfl
    unfold Oper.wp execOp
    simp only [Option.map_none, Sem.run_bind, hr, Result.andThen_ok, Sem.run_pure]
    refine hK _ _ (k w.heap.size (w.alloc (.map #[] 0)) ?_)
    have hsz : (w.alloc (.map #[] 0)).heap.size = w.heap.size + 1 := by show (w.heap.push _).size = _; simp
    exact hI.new ⟨rfl, rfl, rfl, by omega, fun j hj _ => (MapKept.heap_alloc w _).2 j hj⟩ (MapKept.heap_alloc w _).1 (by intro i hi; simp [mpx] at hi; omega) (by simp [mpx])
theorem wpList_insertX {x y u : Operand} {t kt et : TypeId} {r clock : Nat} {es : List MapEntry} {b : Bool} {v : Value} (hI : Inv T w0 w m) (hx : a.eval x = .map (some r)) (hy : a.eval y = .bool b) (hu : a.eval u = v)
    (hT : P.underlying t = some (.map kt et)) (hk : P.underlying kt = some .bool) (hf : Instr.findNow .bool (.bool b) es 0 = some none) (hup : Upd (mpx r es clock) (mpx r (es ++ [⟨.bool b, v, clock⟩]) (clock + 1)) m m')
    (k : ∀ w', Inv T w0 w' m' → wpList P ops Q rest (a.put dst undef) w') : wpList P ops Q (⟨dst, .insert t x y u, ty, pos, af, none⟩ :: rest) a w :=
  wpList_plain rfl fun K hK => by
    have hb : w.heap[r]? = some (.map es.toArray clock) := by
      obtain ⟨m1, m2, rfl, _⟩ := hup.split
      exact hI.sat (mpx r es clock) (by simp)
    have step : ∀ o : Obj, Step [r] w { w with heap := w.heap.setIfInBounds r o } := fun o => ⟨rfl, rfl, rfl, by simp, fun i _ hi => (MapKept.heap_set hb).2 i (by simpa using hi)⟩
    have hr : (Instr.mapUpdate t (.map (some r)) (.bool b) v).run P w = .ok () { w with heap := w.heap.setIfInBounds r (.map (es ++ [({ key := .bool b, val := v, born := clock } : MapEntry)]).toArray (clock + 1)) } := by
      simp [Instr.mapUpdate, run_underlying hT, MapKept.run_getObj_map hb, MapKept.run_checkKey hk (k := .bool b) trivial, MapKept.run_findKey hk hf, MapKept.run_setObj_map _ hb, Result.andThen]
    unfold Oper.wp execOp
    simp only [hx, hy, hu, Sem.run_bind, hr, Result.andThen_ok, Sem.run_pure]
    refine hK _ _ (k _ ?_)
    exact hI.upd hup (step _) (by exact (MapKept.heap_set hb).1) (fun i hi => .inl hi) (by simp [mpx])
theorem wpList_lookupX {x y : Operand} {t kt et : TypeId} {r clock i : Nat} {es : List MapEntry} {b : Bool} {v : Value} (hI : Inv T w0 w m) (hx : a.eval x = .map (some r)) (hy : a.eval y = .bool b)
    (hT : P.underlying t = some (.map kt et)) (hk : P.underlying kt = some .bool) (hm : mpx r es clock ∈ m) (hf : Instr.findNow .bool (.bool b) es 0 = some (some (i, v)))
    (k : wpList P ops Q rest (a.put dst v) w) : wpList P ops Q (⟨dst, .lookup t x y false, ty, pos, af, none⟩ :: rest) a w := by
  refine wpList_yld ?_ k
  have hb : w.heap[r]? = some (.map es.toArray clock) := hI.sat _ hm
  have hr : (Instr.lookup t (.map (some r)) (.bool b) false).run P w = .ok v w := by
    simp [Instr.lookup, run_underlying hT, MapKept.run_getObj_map hb, MapKept.run_checkKey hk (k := .bool b) trivial, MapKept.run_findKey hk hf, Result.andThen]
  unfold Yld execOp
  simp only [hx, hy, Sem.run_bind, hr, Result.andThen_ok]
  rfl
end
end Go.Proofs.Ytckoiabainpamaa
