/-
  A region that draws its order, walked order by order in worlds of a class: an operation that yields the same in every world of the class is taken first. No condition.
-/
import Derived.Test.YtaeapoidigglnaaAny
import Derived.Test.YtaeapoidigglnaaRules
namespace Go.Proofs.Ytaeapoidigglnaa
open Go.RowKit
section
variable {P : Program} {ops : Array Oper} {md : Region.Mode} {Q : Exit → Act → World → Prop} {C : World → Prop}
/-- every order, and each world on the way is of the class -/
def anyC (C : World → Prop) (P : Program) (md : Region.Mode) (ops : Array Oper) (Q : Exit → Act → World → Prop) : Nat → Array Bool → Act → World → Prop
  | 0, listed, a, w => C w ∧ Region.ready md ops listed = [] ∧ Q .normal a w
  | fuel + 1, listed, a, w => C w ∧ (Region.ready md ops listed = [] → Q .normal a w) ∧ ∀ i ∈ Region.ready md ops listed, wpOp P ops Q i (anyC C P md ops Q fuel (listed.setIfInBounds i true)) a w
theorem anyC.cls : ∀ {fuel : Nat} {listed : Array Bool} {a : Act} {w : World}, anyC C P md ops Q fuel listed a w → C w
  | 0, _, _, _, h => h.1
  | _ + 1, _, _, _, h => h.1
theorem anyC.any : ∀ {fuel : Nat} {listed : Array Bool} {a : Act} {w : World}, anyC C P md ops Q fuel listed a w → wpAny P md ops Q fuel listed a w
  | 0, _, _, _, h => h.2
  | _ + 1, _, _, _, h => ⟨h.2.1, fun i hi => wpOp_mono (fun _ _ hh => hh.any) (h.2.2 i hi)⟩
/-- wanted, and yields v in each world of the class -/
def YldC (C : World → Prop) (P : Program) (ops : Array Oper) (o : Oper) (v : Value) (a : Act) : Prop :=
  Region.wanted o (yielded ops a.tmps) = true ∧ ∀ w, C w → (execOp a.eval o).run P w = .ok (.value v) w
theorem YldC.op {i : Nat} {o : Oper} {v : Value} {a : Act} {w : World} {K : Act → World → Prop} (hi : ops[i]? = some o) (hy : YldC C P ops o v a) (hc : C w) (h : K (a.put o.dst v) w) : wpOp P ops Q i K a w := by
  unfold wpOp
  rw [hi]
  simp only
  rw [if_pos hy.1]
  left
  unfold Oper.wp
  rw [hy.2 w hc]
  exact h
theorem YldC.same {o : Oper} {v : Value} {a a' : Act} (hy : YldC C P ops o v a) (he : execOp a'.eval o = execOp a.eval o) (hw : Region.wanted o (yielded ops a'.tmps) = Region.wanted o (yielded ops a.tmps)) : YldC C P ops o v a' :=
  ⟨hw.trans hy.1, fun w hc => by rw [he]; exact hy.2 w hc⟩
theorem YldC.put_op {j : Nat} {oi oj : Oper} {v : Value} (hj : ops[j]? = some oj) (hap : oi.apart ops oj = true) (hsi : ∀ cs b, oi.op ≠ .select cs b) (hsj : ∀ cs b, oj.op ≠ .select cs b)
    (hQ : ∀ c a w, Q (.panic c) (a.put oi.dst v) w → Q (.panic c) a w) {K : Act → World → Prop} {a : Act} {w : World} (hy : YldC C P ops oi v a) (h : wpOp P ops Q j K (a.put oi.dst v) w) :
    wpOp P ops Q j (fun a' w' => YldC C P ops oi v a' ∧ K (a'.put oi.dst v) w') a w := by
  obtain ⟨h1, h2, h3⟩ := Oper.apart_spec hap
  have stay : ∀ u, YldC C P ops oi v (a.put oj.dst u) := fun u => hy.same (execOp_put oi hsi a oj.dst u h3) (wanted_put oi a oj.dst u h3)
  have swap : ∀ u w', K ((a.put oi.dst v).put oj.dst u) w' → YldC C P ops oi v (a.put oj.dst u) ∧ K ((a.put oj.dst u).put oi.dst v) w' := fun u w' hk => ⟨stay u, by rw [← Act.put_comm a v u h2]; exact hk⟩
  unfold wpOp at h ⊢
  rw [hj] at h ⊢
  simp only at h ⊢
  rw [wanted_put oj a oi.dst v h1] at h
  by_cases hw : Region.wanted oj (yielded ops a.tmps) = true
  · rw [if_pos hw] at h ⊢
    rcases h with h | ⟨ha, hl⟩
    · left
      unfold Oper.wp at h ⊢
      rw [execOp_put oj hsj a oi.dst v h1] at h
      generalize (execOp a.eval oj).run P w = r at h ⊢
      cases r with
      | ok n w' =>
        cases n <;> simp only [Oper.upon] at h ⊢
        case value u => exact swap u w' h
        case skip => exact swap _ w' h
        case defer d =>
          have hy' : YldC C P ops oi v { a with defers := d :: a.defers } := hy.same rfl rfl
          refine ⟨hy'.same (execOp_put oi hsi _ oj.dst undef h3) (wanted_put oi _ oj.dst undef h3), ?_⟩
          rw [← Act.put_comm _ v undef h2, ← Act.put_defers]
          exact h
        case enter f args =>
          refine h.mono fun e w'' he => ?_
          cases e with
          | returned u => exact swap u w'' he
          | panicked c => exact hQ _ _ _ he
          | outgrown => exact he
        case row r args => exact h.mono fun u w'' he => swap u w'' he
      | halt x w' =>
        cases x <;> simp only [Oper.upon] at h ⊢
        case panic u => exact hQ _ _ _ h
    · right
      refine ⟨?_, hl⟩
      unfold Oper.asks at ha ⊢
      rw [execOp_put oj hsj a oi.dst v h1] at ha
      exact ha
  · rw [if_neg hw] at h ⊢
    exact swap _ w h
theorem anyC_first {i : Nat} {oi : Oper} {v : Value} (hi : ops[i]? = some oi) (hsel : ∀ (j : Nat) (o : Oper) cs b, ops[j]? = some o → o.op ≠ .select cs b) (hQ : ∀ c a w, Q (.panic c) (a.put oi.dst v) w → Q (.panic c) a w) :
    ∀ (fuel : Nat) (listed : Array Bool) (a : Act) (w : World),
      (∀ j oj, ops[j]? = some oj → j ≠ i → listed.getD j true = false → (∀ e ∈ oj.after, Region.binds md e = true → e.on ≠ i) → oi.apart ops oj = true) →
      i ∈ Region.ready md ops listed → YldC C P ops oi v a → anyC C P md ops Q fuel (listed.setIfInBounds i true) (a.put oi.dst v) w → anyC C P md ops Q (fuel + 1) listed a w := by
  intro fuel
  induction fuel with
  | zero =>
    intro listed a w _ hr hy H
    refine ⟨H.cls, fun h => (by rw [h] at hr; cases hr), fun j hj => ?_⟩
    by_cases hji : j = i
    · subst hji; exact hy.op hi H.cls H
    · have h0 := ready_mono hj hji
      rw [H.2.1] at h0
      cases h0
  | succ fuel ih =>
    intro listed a w hfree hr hy H
    refine ⟨H.cls, fun h => (by rw [h] at hr; cases hr), fun j hj => ?_⟩
    by_cases hji : j = i
    · subst hji; exact hy.op hi H.cls H
    · obtain ⟨hjun, oj, hoj, hall⟩ := mem_ready.1 hj
      have hnot : ∀ e ∈ oj.after, Region.binds md e = true → e.on ≠ i := fun e he hb heq => by
        have h1 := hall e he hb
        have h0 := (mem_ready.1 hr).1
        rw [heq] at h1
        rcases Nat.lt_or_ge i listed.size with h' | h'
        · simp [h'] at h0 h1; rw [h0] at h1; cases h1
        · simp [Array.getElem?_eq_none h'] at h1
      have h2 := hy.put_op hoj (hfree j oj hoj hji hjun hnot) (fun cs b => hsel i oi cs b hi) (fun cs b => hsel j oj cs b hoj) hQ (H.2.2 j (ready_mono hj hji))
      refine wpOp_mono (fun a' w' h3 => ih (listed.setIfInBounds j true) a' w' (fun k ok hk hki hun hno => hfree k ok hk hki ?_ hno) (ready_mono hr (Ne.symm hji)) h3.1 ?_) h2
      · by_cases hjk : j = k
        · subst hjk; exact hjun
        · rw [getD_set_ne true hjk] at hun; exact hun
      · rw [Array.setIfInBounds_comm _ _ hji]
        exact h3.2
/-- an operation that yields v in each world of the class is taken first -/
theorem anyC_take {i : Nat} {oi : Oper} {v : Value} {fuel : Nat} {listed : Array Bool} {a : Act} {w : World} (hi : ops[i]? = some oi)
    (hs : Region.noSelect ops = true) (hf : Region.free md ops listed i = true) (hr : (Region.ready md ops listed).contains i = true)
    (hQ : ∀ c a w, Q (.panic c) (a.put oi.dst v) w → Q (.panic c) a w) (hy : YldC C P ops oi v a)
    (h : anyC C P md ops Q fuel (listed.setIfInBounds i true) (a.put oi.dst v) w) : anyC C P md ops Q (fuel + 1) listed a w :=
  anyC_first hi (Region.noSelect_spec hs) hQ fuel listed a w (Region.free_spec hi hf) (by simpa using hr) hy h
theorem anyC_one {i : Nat} {fuel : Nat} {listed : Array Bool} {a : Act} {w : World} (hr : Region.ready md ops listed = [i]) (hc : C w)
    (h : wpOp P ops Q i (anyC C P md ops Q fuel (listed.setIfInBounds i true)) a w) : anyC C P md ops Q (fuel + 1) listed a w :=
  ⟨hc, fun h0 => absurd (h0.symm.trans hr) (by simp), fun j hj => by rw [hr] at hj; obtain rfl := List.mem_singleton.1 hj; exact h⟩
theorem anyC_two {i j : Nat} {fuel : Nat} {listed : Array Bool} {a : Act} {w : World} (hr : Region.ready md ops listed = [i, j]) (hc : C w)
    (h : wpOp P ops Q i (anyC C P md ops Q fuel (listed.setIfInBounds i true)) a w) (h' : wpOp P ops Q j (anyC C P md ops Q fuel (listed.setIfInBounds j true)) a w) : anyC C P md ops Q (fuel + 1) listed a w :=
  ⟨hc, fun h0 => absurd (h0.symm.trans hr) (by simp), fun k hk => by
    rw [hr] at hk
    rcases List.mem_cons.1 hk with rfl | hk
    · exact h
    · obtain rfl := List.mem_singleton.1 hk; exact h'⟩
theorem anyC_done {listed : Array Bool} {a : Act} {w : World} (hr : Region.ready md ops listed = []) (hc : C w) (h : Q .normal a w) : ∀ fuel, anyC C P md ops Q fuel listed a w
  | 0 => ⟨hc, hr, h⟩
  | _ + 1 => ⟨hc, fun _ => h, by rw [hr]; simp⟩
theorem anyC_stepl {l : List Oper} {i : Nat} {o : Oper} {fuel : Nat} {listed : Array Bool} {a : Act} {w : World} (ho : l[i]? = some o) (hw : Region.wanted o (yielded l.toArray a.tmps) = true)
    (h : wpList P l.toArray (kpost (anyC C P md l.toArray Q fuel (listed.setIfInBounds i true))) [o] a w) : wpOp P l.toArray Q i (anyC C P md l.toArray Q fuel (listed.setIfInBounds i true)) a w := by
  unfold wpOp
  rw [show l.toArray[i]? = some o by simpa using ho]
  simp only
  rw [if_pos hw]
  exact .inl (wp_of_kpost hw h)
theorem region_anyC {id : Nat} {a : Act} {w : World} (C : World → Prop) (hm : P.follows .mixedOrders = true)
    (h : anyC C P .any ops Q ops.size (Array.replicate ops.size false) a w.drew) : (Code.region id ops true).wp P Q a w :=
  wp_region_any hm h.any
end
end Go.Proofs.Ytaeapoidigglnaa
