/-
  A region that draws its order, walked in the order of the text world by world: writers that stand in one order, each of which may make memory or end in what the model draws. No condition.
-/
import Derived.Test.YtaeapoidigglnaaReg
namespace Go.Proofs.Ytaeapoidigglnaa
open Go.RowKit

/-- an operation that never calls: it yields a value, or nothing -/
def plainOp : Op → Bool
  | .alloc .. | .box .. | .build .. | .buildSlice .. | .load .. | .store .. | .binOp .. | .unOp .. | .convert .. | .sliceToArrayPointer .. | .makeInterface .. | .makeFunc .. | .makeMap .. | .makeChan .. | .makeSlice .. | .slice .. | .fieldAddr ..
  | .field .. | .indexAddr .. | .index .. | .lookup .. | .mapUpdate .. | .insert .. | .mapEntry .. | .entryStore .. | .range .. | .typeAssert .. | .extract .. | .move .. | .assign .. | .pick .. => true
  | .call c => (match c.callee with | .builtin .append | .builtin .len | .builtin .cap | .builtin .copy | .builtin .min | .builtin .max | .builtin .delete => true | _ => false)
  | _ => false

section
variable {P : Program} {ops : Array Oper}
theorem next_v {s : Sem Value} {w w' : World} {n : Next} (h : (do pure (Next.value (← s)) : Sem Next).run P w = .ok n w') : ∃ v, n = .value v := by
  rw [Sem.run_bind] at h
  cases hs : s.run P w with
  | ok v w1 => rw [hs, Result.andThen_ok, Sem.run_pure] at h; cases h; exact ⟨v, rfl⟩
  | halt x w1 => rw [hs] at h; cases h
theorem next_u {s : Sem Unit} {w w' : World} {n : Next} (h : (do s; pure Next.skip : Sem Next).run P w = .ok n w') : n = .skip := by
  rw [Sem.run_bind] at h
  cases hs : s.run P w with
  | ok v w1 => rw [hs, Result.andThen_ok, Sem.run_pure] at h; cases h; rfl
  | halt x w1 => rw [hs] at h; cases h
theorem plain_next {o : Oper} {ρ : Operand → Value} {w w' : World} {n : Next} (hp : plainOp o.op = true) (h : (execOp ρ o).run P w = .ok n w') : (∃ v, n = .value v) ∨ n = .skip := by
  obtain ⟨dst, op, ty, pos, af, g⟩ := o
  cases op <;> simp only [plainOp, Bool.false_eq_true] at hp <;> simp only [execOp] at h
  case move => rw [Sem.run_pure] at h; cases h; exact .inl ⟨_, rfl⟩
  case assign => rw [Sem.run_pure] at h; cases h; exact .inl ⟨_, rfl⟩
  case store => exact .inr (next_u h)
  case mapUpdate => exact .inr (next_u h)
  case insert => exact .inr (next_u h)
  case entryStore => exact .inr (next_u h)
  case pick =>
    rw [Sem.run_bind] at h
    rename_i c x y
    cases hb : (asBool (ρ c)).run P w with
    | ok v w1 => rw [hb, Result.andThen_ok, Sem.run_pure] at h; cases h; exact .inl ⟨_, rfl⟩
    | halt x w1 => rw [hb] at h; cases h
  case call c =>
    obtain ⟨callee, args, ats⟩ := c
    cases callee with
    | builtin b =>
      simp only [resolve, Sem.run_bind, Sem.run_pure, Result.andThen_ok, invoke] at h
      cases b <;> simp only [Bool.false_eq_true] at hp <;> exact .inl (next_v h)
    | invoke => simp at hp
    | value => simp at hp
  all_goals exact .inl (next_v h)

variable {S : List Nat} {E : World → Prop} {F : (World → Prop) → Act → Prop} {rest : List Oper} {k : Nat} {a : Act} {dst : Option Tmp} {op : Op} {ty : TypeId} {pos : String} {af : Array Edge} {g : Option (Nat × Bool)} {w : World}

theorem wp_unguard2 {K : Act → World → Prop} {Q : Exit → Act → World → Prop} (h : Oper.wp P ⟨dst, op, ty, pos, af, none⟩ a w K Q) : Oper.wp P ⟨dst, op, ty, pos, af, g⟩ a w K Q := by
  unfold Oper.wp at h ⊢
  have e : execOp a.eval ⟨dst, op, ty, pos, af, g⟩ = execOp a.eval ⟨dst, op, ty, pos, af, none⟩ := rfl
  rw [e]
  generalize (execOp a.eval ⟨dst, op, ty, pos, af, none⟩).run P w = r at h ⊢
  cases r with
  | ok n w' => cases n <;> exact h
  | halt x w' => cases x <;> exact h

/-- what is left of the region, in one world -/
def Nxt (P : Program) (ops : Array Oper) (S : List Nat) (E : World → Prop) (F : (World → Prop) → Act → Prop) (rest : List Oper) (k : Nat) : Exit → Act → World → Prop := fun e a w => e = .normal ∧ wpReg P ops S E F rest k (fun x => x = w) a

theorem one_run {Q : Exit → Act → World → Prop} (hp : plainOp op = true) (hQ : ∀ e a w, Q e a w → e = .normal) (h : wpList P ops Q [⟨dst, op, ty, pos, af, none⟩] a w) :
    ∃ v w', Q .normal (a.put dst v) w' ∧ ∀ C' : World → Prop, C' w' → Oper.wp P ⟨dst, op, ty, pos, af, g⟩ a w (regK (a.put dst v) C') (fun _ _ _ => False) := by
  unfold wpList at h
  rw [if_pos (by simp [Region.wanted])] at h
  rcases h with h | ⟨_, _, _, h⟩
  · unfold Oper.wp at h
    have hpn : ∀ n w', (execOp a.eval ⟨dst, op, ty, pos, af, none⟩).run P w = .ok n w' → (∃ v, n = .value v) ∨ n = .skip := fun n w' hr => plain_next hp hr
    cases hr : (execOp a.eval ⟨dst, op, ty, pos, af, none⟩).run P w with
    | ok n w' =>
      rcases hpn n w' hr with ⟨v, rfl⟩ | rfl
      · rw [hr] at h
        refine ⟨v, w', h, fun C' hC => wp_unguard2 ?_⟩
        unfold Oper.wp
        rw [hr]
        exact ⟨rfl, hC⟩
      · rw [hr] at h
        refine ⟨undef, w', h, fun C' hC => wp_unguard2 ?_⟩
        unfold Oper.wp
        rw [hr]
        exact ⟨rfl, hC⟩
    | halt x w' =>
      rw [hr] at h
      cases x <;> simp only [Oper.upon] at h
      exact absurd (hQ _ _ _ h) (by simp)
  · exact absurd (hQ _ _ _ h) (by simp)

/-- an operation that turns the world, in its one order -/
theorem wpReg_one (hw : Region.wanted ⟨dst, op, ty, pos, af, g⟩ (yielded ops a.tmps) = true) (hkS : S.elem k = true) (hrd : rd ops S k = true) (hp : plainOp op = true) (hE : ∀ w, E w)
    (h : wpList P ops (Nxt P ops S E F rest (k + 1)) [⟨dst, op, ty, pos, af, none⟩] a w) : wpReg P ops S E F (⟨dst, op, ty, pos, af, g⟩ :: rest) k (fun x => x = w) a := by
  obtain ⟨v, w', ⟨_, hn⟩, hr⟩ := one_run (g := g) hp (fun _ _ _ h => h.1) h
  unfold wpReg
  rw [if_pos hw]
  refine ⟨v, fun x => x = w', hn, .inr ⟨hrd, .inr ⟨by simpa using hkS, fun w _ => hE w⟩, fun x hx => ?_⟩⟩
  subst hx
  exact hr _ rfl
/-- a look at the world -/
theorem wpReg_look (hw : Region.wanted ⟨dst, op, ty, pos, af, g⟩ (yielded ops a.tmps) = true) (hrd : rd ops S k = true) (hp : plainOp op = true)
    (h : wpList P ops (fun e a' w' => e = .normal ∧ w' = w ∧ wpReg P ops S E F rest (k + 1) (fun x => x = w) a') [⟨dst, op, ty, pos, af, none⟩] a w) : wpReg P ops S E F (⟨dst, op, ty, pos, af, g⟩ :: rest) k (fun x => x = w) a := by
  obtain ⟨v, w', ⟨_, rfl, hn⟩, hr⟩ := one_run (g := g) hp (fun _ _ _ h => h.1) h
  unfold wpReg
  rw [if_pos hw]
  refine ⟨v, fun x => x = w', hn, .inr ⟨hrd, .inl rfl, fun x hx => ?_⟩⟩
  subst hx
  exact hr _ rfl
/-- a call whose value is known: behind it the worlds of a class -/
theorem wpReg_call (v : Value) (R : World → Prop) (hw : Region.wanted ⟨dst, op, ty, pos, af, g⟩ (yielded ops a.tmps) = true) (hkS : S.elem k = true) (hrd : rd ops S k = true) (hE : ∀ w, E w)
    (h : wpList P ops (fun e a' w' => e = .normal ∧ a' = a.put dst v ∧ R w') [⟨dst, op, ty, pos, af, none⟩] a w) (hr : wpReg P ops S E F rest (k + 1) R (a.put dst v)) : wpReg P ops S E F (⟨dst, op, ty, pos, af, g⟩ :: rest) k (fun x => x = w) a :=
  wpReg_store hw hkS hrd (fun x hx => by subst hx; exact h) ⟨v, rfl⟩ (fun w _ => hE w) hr
theorem wp_region_one {id : Nat} {l : List Oper} {Q : Exit → Act → World → Prop} (S : List Nat) (hm : P.follows .mixedOrders = true) (hB : okReg l.toArray S = true)
    (h : wpReg P l.toArray S (fun _ => True) (fun C a => ∀ w, C w → Q .normal a w) l 0 (fun x => x = w.drew) a) : (Code.region id l.toArray true).wp P Q a w :=
  wp_region_reg S (fun _ => True) (C := fun x => x = w.drew) rfl (fun _ _ => trivial) hm hB h
end
end Go.Proofs.Ytaeapoidigglnaa
