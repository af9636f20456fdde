/-
  The walk's rules for operations on owned memory: a new variable, a load, a store, a guard, the result. No condition.
-/
import Derived.Test.YtaeapoidigglnaaMem
namespace Go.Proofs.Ytaeapoidigglnaa
open Go.RowKit

section
variable {P : Program} {ops : Array Oper} {Q : Exit → Act → World → Prop} {a : Act} {rest : List Oper} {T : List Nat} {w0 w : World} {m m' : List Res} {dst : Option Tmp} {ty : TypeId} {pos : String} {af : Array Edge}

/-- an operation that yields v and leaves the world alone -/
def Yld (P : Program) (o : Oper) (a : Act) (w : World) (v : Value) : Prop := (execOp a.eval o).run P w = .ok (.value v) w

theorem wpList_yld {op : Op} {v : Value} (h : Yld P ⟨dst, op, ty, pos, af, none⟩ a w v) (k : wpList P ops Q rest (a.put dst v) w) : wpList P ops Q (⟨dst, op, ty, pos, af, none⟩ :: rest) a w :=
  wpList_plain rfl fun K hK => by
    unfold Oper.wp
    rw [h]
    exact hK _ _ k

theorem wpStill_yld {op : Op} {v : Value} {R : Act → Prop} (h : Yld P ⟨dst, op, ty, pos, af, none⟩ a w v) (k : wpStill P ops w R rest (a.put dst v)) : wpStill P ops w R (⟨dst, op, ty, pos, af, none⟩ :: rest) a := by
  unfold wpStill
  rw [if_pos (by simp [Region.wanted])]
  unfold Oper.still
  rw [h]
  exact ⟨rfl, k⟩

theorem wpQuiet_yld {op : Op} {v : Value} {C : World → Prop} {R : Act → Prop} (h : ∀ w, C w → Yld P ⟨dst, op, ty, pos, af, none⟩ a w v) (k : wpQuiet P ops C R rest (a.put dst v)) : wpQuiet P ops C R (⟨dst, op, ty, pos, af, none⟩ :: rest) a := by
  unfold wpQuiet
  rw [if_pos (by simp [Region.wanted])]
  refine ⟨v, fun w hw => ?_, k⟩
  unfold Oper.quietAt
  rw [h w hw]
  exact ⟨rfl, rfl⟩

/-- a callee in a region that draws -/
theorem wpQuiet_call {op : Op} {v : Value} {C : World → Prop} {R : Act → Prop} {f : FuncId} {args : Array Value} (he : ∀ w, (execOp a.eval ⟨dst, op, ty, pos, af, none⟩).run P w = .ok (.enter f args) w)
    (h : ∀ w, C w → Calls P f args w fun e w' => e = .returned v ∧ C w') (k : wpQuiet P ops C R rest (a.put dst v)) : wpQuiet P ops C R (⟨dst, op, ty, pos, af, none⟩ :: rest) a := by
  unfold wpQuiet
  rw [if_pos (by simp [Region.wanted])]
  refine ⟨v, fun w hw => ?_, k⟩
  unfold Oper.quietAt
  rw [he w]
  exact ⟨rfl, h w hw⟩

/-- a guard that says yes -/
theorem wpList_on {op : Op} {j : Nat} {want : Bool} (h : yielded ops a.tmps j = some want) (k : wpList P ops Q (⟨dst, op, ty, pos, af, none⟩ :: rest) a w) : wpList P ops Q (⟨dst, op, ty, pos, af, some (j, want)⟩ :: rest) a w := by
  unfold wpList at k ⊢
  rw [if_pos (by simp [Region.wanted])] at k
  rw [if_pos (by simp [Region.wanted, h])]
  exact k
theorem wpStill_on {op : Op} {j : Nat} {want : Bool} {R : Act → Prop} (h : yielded ops a.tmps j = some want) (k : wpStill P ops w R (⟨dst, op, ty, pos, af, none⟩ :: rest) a) : wpStill P ops w R (⟨dst, op, ty, pos, af, some (j, want)⟩ :: rest) a := by
  unfold wpStill at k ⊢
  rw [if_pos (by simp [Region.wanted])] at k
  rw [if_pos (by simp [Region.wanted, h])]
  exact k
theorem wpQuiet_on {op : Op} {j : Nat} {want : Bool} {C : World → Prop} {R : Act → Prop} (h : yielded ops a.tmps j = some want) (k : wpQuiet P ops C R (⟨dst, op, ty, pos, af, none⟩ :: rest) a) : wpQuiet P ops C R (⟨dst, op, ty, pos, af, some (j, want)⟩ :: rest) a := by
  unfold wpQuiet at k ⊢
  rw [if_pos (by simp [Region.wanted])] at k
  rw [if_pos (by simp [Region.wanted, h])]
  exact k

theorem yld_load_agg {x : Operand} {t n b off : Nat} {e : TypeId} {cs : List Value} {g : Option (Nat × Bool)} (hI : Inv T w0 w m) (hx : a.eval x = .pointer (some ⟨b, off, none⟩)) (hm : blk b e cs ∈ m) (hT : AggT P t n) (hl : off + n ≤ cs.length) :
    Yld P ⟨dst, .load t x, ty, pos, af, g⟩ a w (.agg ((cs.drop off).take n).toArray) := by
  unfold Yld execOp
  simp only [hx, Instr.loadAt, Instr.sureAddr, Sem.run_bind, Sem.run_pure, Result.andThen_ok, run_load_agg hT (hI.blk hm) off hl]
theorem yld_load_one {x : Operand} {t b off : Nat} {e : TypeId} {cs : List Value} {v : Value} {g : Option (Nat × Bool)} (hI : Inv T w0 w m) (hx : a.eval x = .pointer (some ⟨b, off, none⟩)) (hm : blk b e cs ∈ m) (hT : OneT P t) (hv : cs[off]? = some v) :
    Yld P ⟨dst, .load t x, ty, pos, af, g⟩ a w v := by
  unfold Yld execOp
  simp only [hx, Instr.loadAt, Instr.sureAddr, Sem.run_bind, Sem.run_pure, Result.andThen_ok, run_load_one hT (hI.blk hm) off hv]

theorem wpList_load_agg {x : Operand} {t n b off : Nat} {e : TypeId} {cs : List Value} (hI : Inv T w0 w m) (hx : a.eval x = .pointer (some ⟨b, off, none⟩)) (hm : blk b e cs ∈ m) (hT : AggT P t n) (hl : off + n ≤ cs.length)
    (k : wpList P ops Q rest (a.put dst (.agg ((cs.drop off).take n).toArray)) w) : wpList P ops Q (⟨dst, .load t x, ty, pos, af, none⟩ :: rest) a w := wpList_yld (yld_load_agg hI hx hm hT hl) k
theorem wpList_load_one {x : Operand} {t b off : Nat} {e : TypeId} {cs : List Value} {v : Value} (hI : Inv T w0 w m) (hx : a.eval x = .pointer (some ⟨b, off, none⟩)) (hm : blk b e cs ∈ m) (hT : OneT P t) (hv : cs[off]? = some v)
    (k : wpList P ops Q rest (a.put dst v) w) : wpList P ops Q (⟨dst, .load t x, ty, pos, af, none⟩ :: rest) a w := wpList_yld (yld_load_one hI hx hm hT hv) k
theorem wpStill_load_agg {x : Operand} {t n b off : Nat} {e : TypeId} {cs : List Value} {R : Act → Prop} (hI : Inv T w0 w m) (hx : a.eval x = .pointer (some ⟨b, off, none⟩)) (hm : blk b e cs ∈ m) (hT : AggT P t n) (hl : off + n ≤ cs.length)
    (k : wpStill P ops w R rest (a.put dst (.agg ((cs.drop off).take n).toArray))) : wpStill P ops w R (⟨dst, .load t x, ty, pos, af, none⟩ :: rest) a := wpStill_yld (yld_load_agg hI hx hm hT hl) k
theorem wpStill_load_one {x : Operand} {t b off : Nat} {e : TypeId} {cs : List Value} {v : Value} {R : Act → Prop} (hI : Inv T w0 w m) (hx : a.eval x = .pointer (some ⟨b, off, none⟩)) (hm : blk b e cs ∈ m) (hT : OneT P t) (hv : cs[off]? = some v)
    (k : wpStill P ops w R rest (a.put dst v)) : wpStill P ops w R (⟨dst, .load t x, ty, pos, af, none⟩ :: rest) a := wpStill_yld (yld_load_one hI hx hm hT hv) k
theorem wpQuiet_load_agg {x : Operand} {t n b off : Nat} {e : TypeId} {cs : List Value} {R : Act → Prop} (hx : a.eval x = .pointer (some ⟨b, off, none⟩)) (hm : blk b e cs ∈ m) (hT : AggT P t n) (hl : off + n ≤ cs.length)
    (k : wpQuiet P ops (fun w' => Inv T w0 w' m) R rest (a.put dst (.agg ((cs.drop off).take n).toArray))) : wpQuiet P ops (fun w' => Inv T w0 w' m) R (⟨dst, .load t x, ty, pos, af, none⟩ :: rest) a := wpQuiet_yld (fun _ hI => yld_load_agg hI hx hm hT hl) k
theorem wpQuiet_load_one {x : Operand} {t b off : Nat} {e : TypeId} {cs : List Value} {v : Value} {R : Act → Prop} (hx : a.eval x = .pointer (some ⟨b, off, none⟩)) (hm : blk b e cs ∈ m) (hT : OneT P t) (hv : cs[off]? = some v)
    (k : wpQuiet P ops (fun w' => Inv T w0 w' m) R rest (a.put dst v)) : wpQuiet P ops (fun w' => Inv T w0 w' m) R (⟨dst, .load t x, ty, pos, af, none⟩ :: rest) a := wpQuiet_yld (fun _ hI => yld_load_one hI hx hm hT hv) k
/-- a call of a function that turns nothing that was there, in a region that draws -/
theorem wpQuiet_call_inv {f : FuncId} {v : Value} {xs : Array Operand} {ts : Array TypeId} {R : Act → Prop} (hf : ∃ fn, P.funcs[f]? = some fn ∧ (fn.name == "runtime.NumGoroutine") = false ∧ fn.body.isNone = false)
    (h : ∀ w, Inv T w0 w m → Calls P f (xs.map a.eval) w fun e w' => e = .returned v ∧ Below w.heap.size w w')
    (k : wpQuiet P ops (fun w' => Inv T w0 w' m) R rest (a.put dst v)) : wpQuiet P ops (fun w' => Inv T w0 w' m) R (⟨dst, .call { callee := .value (.func f), args := xs, argTypes := ts }, ty, pos, af, none⟩ :: rest) a := by
  obtain ⟨fn, hfn, hn, hb⟩ := hf
  refine wpQuiet_call (f := f) (args := xs.map a.eval) (fun w => ?_) (fun w hI => (h w hI).mono fun e w' ⟨he, hb⟩ => ⟨he, hI.call hb⟩) k
  have hn' : ¬ fn.name = "runtime.NumGoroutine" := beq_eq_false_iff_ne.1 hn
  have hb' : ¬ fn.body = none := by intro h; rw [h] at hb; cases hb
  simp [execOp, resolve, Act.eval, Deferred.ofValue, invoke, callFunc, program, hfn, hn', hb', Sem.run]

/-- a new variable with a value -/
theorem wpList_box {x : Operand} {t : TypeId} {cs : List Value} (hI : Inv T w0 w m) (hcs : (a.eval x).cells = cs.toArray)
    (k : ∀ b w', Inv T w0 w' (blk b t cs :: m) → wpList P ops Q rest (a.put dst (.pointer (some ⟨b, 0, none⟩))) w') : wpList P ops Q (⟨dst, .box t x, ty, pos, af, none⟩ :: rest) a w :=
  wpList_plain rfl fun K hK => by
    unfold Oper.wp execOp
    simp only [Instr.box, newVar, newRow, newObj, hcs, Sem.run_bind, Sem.run_pure]
    refine hK _ _ (k w.heap.size { w with heap := w.heap.push (.cells cs.toArray t) } ?_)
    exact hI.new ⟨rfl, rfl, rfl, by simp, fun k hk _ => by simp [Array.getElem?_push, Nat.ne_of_lt hk]⟩ (by show (w.heap.push _)[w.heap.size]? = _; simp) (by simp [blk]) (by simp [blk])

/-- a new variable of a type's zero value -/
theorem wpList_alloc {t : TypeId} {z : Value} {cs : List Value} (hI : Inv T w0 w m) (hz : (P.info? t).map (·.zero) = some (some z)) (hcs : z.cells = cs.toArray)
    (k : ∀ b w', Inv T w0 w' (blk b t cs :: m) → wpList P ops Q rest (a.put dst (.pointer (some ⟨b, 0, none⟩))) w') : wpList P ops Q (⟨dst, .alloc t, ty, pos, af, none⟩ :: rest) a w :=
  wpList_plain rfl fun K hK => by
    obtain ⟨i, hi, hz'⟩ := Option.map_eq_some_iff.1 hz
    have hzv : (zeroValue t).run P w = .ok z w := by simp [zeroValue, typeInfo, hi, hz']
    unfold Oper.wp execOp
    simp only [Instr.alloc, Sem.run_bind, hzv, Result.andThen_ok, newVar, newRow, newObj, hcs, Sem.run_pure]
    refine hK _ _ (k w.heap.size { w with heap := w.heap.push (.cells cs.toArray t) } ?_)
    exact hI.new ⟨rfl, rfl, rfl, by simp, fun k hk _ => by simp [Array.getElem?_push, Nat.ne_of_lt hk]⟩ (by show (w.heap.push _)[w.heap.size]? = _; simp) (by simp [blk]) (by simp [blk])

/-- a store -/
theorem wpList_store {x y : Operand} {t n b off : Nat} {e : TypeId} {cs vs : List Value} (hI : Inv T w0 w m) (hx : a.eval x = .pointer (some ⟨b, off, none⟩)) (hv : (a.eval y).cells = vs.toArray) (hu : Upd (blk b e cs) (blk b e (splice cs off vs)) m m')
    (hn : (P.info? t).map (·.size) = some n) (hl : vs.length = n) (hoff : off + n ≤ cs.length) (h1 : ∀ u ∈ vs, u.oneCell' = true)
    (k : ∀ w', Inv T w0 w' m' → wpList P ops Q rest (a.put dst undef) w') : wpList P ops Q (⟨dst, .store t x y, ty, pos, af, none⟩ :: rest) a w :=
  wpList_plain rfl fun K hK => by
    have hb : w.heap[b]? = some (.cells cs.toArray e (0, 0)) := by
      obtain ⟨m1, m2, rfl, _⟩ := hu.split
      exact hI.blk (by simp)
    obtain ⟨w', hr, hs, hsz, hh⟩ := run_storeVar (P := P) hn vs hv hl h1 hb off hoff
    unfold Oper.wp execOp
    simp only [hx, Instr.storeAt, Instr.sureAddr, Sem.run_bind, Sem.run_pure, Result.andThen_ok, hr]
    exact hK _ _ (k w' (hI.upd hu hs hh (fun k hk => .inl hk) (by simp [blk])))

/-- results: a struct out of its variable, and a plain one -/
theorem results_agg_tmp {fn : Func} {p u : Tmp} {t n b : Nat} {e : TypeId} {cs : List Value} {tmps : Array Value} (hI : Inv T w0 w m) (h : fn.results = #[.cell p t, .tmp u]) (hp : tmps.getD p undef = .pointer (some ⟨b, 0, none⟩))
    (hm : blk b e cs ∈ m) (hT : AggT P t n) (hl : cs.length = n) : (results fn tmps).run P w = .ok (.tuple #[.agg cs.toArray, tmps.getD u undef]) w := by
  rw [results_cell_tmp h, hp]
  simp only [asAddr, Sem.run_pure, Result.andThen_ok, run_load_agg hT (hI.blk hm) 0 (by omega)]
  subst hl
  simp
theorem results_agg {fn : Func} {p : Tmp} {t n b : Nat} {e : TypeId} {cs : List Value} {tmps : Array Value} (hI : Inv T w0 w m) (h : fn.results = #[.cell p t]) (hp : tmps.getD p undef = .pointer (some ⟨b, 0, none⟩))
    (hm : blk b e cs ∈ m) (hT : AggT P t n) (hl : cs.length = n) : (results fn tmps).run P w = .ok (.agg cs.toArray) w := by
  have hp' : tmps[p]?.getD undef = .pointer (some ⟨b, 0, none⟩) := by simpa using hp
  subst hl
  have := run_load_agg hT (hI.blk hm) 0 (by omega)
  simp [results, h, hp', asAddr, this]

/-- a region that draws its order: reads, then a tail in one order -/
theorem wp_region_tail {id : Nat} {l : List Oper} (n : Nat) (hI : Inv T w0 w m) (hm : P.follows .mixedOrders = true) (hB : Region.lexTailB .any l.toArray n = true)
    (h : ∀ w', Inv T w0 w' m → wpStill P l.toArray w' (fun a' => wpList P l.toArray Q (l.drop n) a' w') (l.take n) a) : (Code.region id l.toArray true).wp P Q a w :=
  wp_region_still_tail n hm hB (h _ hI.drew)
/-- a region that draws its order: reads, and calls that turn nothing that was there -/
theorem wp_region_quiet_inv {id : Nat} {l : List Oper} (hI : Inv T w0 w m) (hm : P.follows .mixedOrders = true) (hB : Region.lexB .any l.toArray = true)
    (h : wpQuiet P l.toArray (fun w' => Inv T w0 w' m) (fun a' => ∀ w', Inv T w0 w' m → Q .normal a' w') l a) : (Code.region id l.toArray true).wp P Q a w :=
  wp_region_quiet (C := fun w' => Inv T w0 w' m) hm hB hI.drew (by simpa using h)
end
end Go.Proofs.Ytaeapoidigglnaa
