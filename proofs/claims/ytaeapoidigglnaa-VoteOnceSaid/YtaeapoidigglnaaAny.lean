/-
  A region that draws its order, walked order by order, each operation as a list of one. No condition.
-/
import Derived.Test.YtaeapoidigglnaaReg
namespace Go.Proofs.Ytaeapoidigglnaa
open Go.RowKit
section
variable {P : Program} {ops : Array Oper} {md : Region.Mode} {Q : Exit → Act → World → Prop}
def kpost (K : Act → World → Prop) : Exit → Act → World → Prop := fun e a w => e = .normal ∧ K a w
theorem kpost_mk {K : Act → World → Prop} {a : Act} {w : World} (h : K a w) : kpost K .normal a w := ⟨rfl, h⟩
theorem wp_of_kpost {o : Oper} {a : Act} {w : World} {K : Act → World → Prop} (hw : Region.wanted o (yielded ops a.tmps) = true) (h : wpList P ops (kpost K) [o] a w) : o.wp P a w K Q := by
  unfold wpList at h
  rw [if_pos hw] at h
  rcases h with h | ⟨_, a', w', h⟩
  · unfold Oper.wp at h ⊢
    generalize (execOp a.eval o).run P w = r at h
    have one : ∀ a w, wpList P ops (kpost K) [] a w → K a w := fun a w hh => hh.2
    cases r with
    | ok n w' =>
      cases n <;> simp only [Oper.upon] at h ⊢
      case value u => exact one _ _ h
      case skip => exact one _ _ h
      case defer d => exact one _ _ h
      case enter f args =>
        refine h.mono fun e w'' hh => ?_
        cases e with
        | returned u => exact one _ _ hh
        | panicked c => cases hh.1
        | outgrown => obtain ⟨_, _, hh⟩ := hh; cases hh.1
      case row r args => exact h.mono fun u w'' hh => one _ _ hh
    | halt x w' => cases x <;> simp only [Oper.upon] at h ⊢ <;> first | (cases h.1; done) | exact h
  · cases h.1
/-- one operation that may come up now -/
theorem any_step {i : Nat} {o : Oper} {fuel : Nat} {listed : Array Bool} {a : Act} {w : World} (ho : ops[i]? = some o) (hw : Region.wanted o (yielded ops a.tmps) = true)
    (h : wpList P ops (kpost (wpAny P md ops Q fuel (listed.setIfInBounds i true))) [o] a w) : wpOp P ops Q i (wpAny P md ops Q fuel (listed.setIfInBounds i true)) a w := by
  unfold wpOp
  rw [ho]
  simp only
  rw [if_pos hw]
  exact .inl (wp_of_kpost hw h)
theorem any_stepl {l : List Oper} {i : Nat} {o : Oper} {fuel : Nat} {listed : Array Bool} {a : Act} {w : World} (ho : l[i]? = some o) (hw : Region.wanted o (yielded l.toArray a.tmps) = true)
    (h : wpList P l.toArray (kpost (wpAny P md l.toArray Q fuel (listed.setIfInBounds i true))) [o] a w) : wpOp P l.toArray Q i (wpAny P md l.toArray Q fuel (listed.setIfInBounds i true)) a w :=
  any_step (by simpa using ho) hw h
theorem any_one {i : Nat} {fuel : Nat} {listed : Array Bool} {a : Act} {w : World} (hr : Region.ready md ops listed = [i])
    (h : wpOp P ops Q i (wpAny P md ops Q fuel (listed.setIfInBounds i true)) a w) : wpAny P md ops Q (fuel + 1) listed a w :=
  wpAny_all hr (by simp) (fun j hj => by obtain rfl := List.mem_singleton.1 hj; exact h)
theorem any_two {i j : Nat} {fuel : Nat} {listed : Array Bool} {a : Act} {w : World} (hr : Region.ready md ops listed = [i, j])
    (h : wpOp P ops Q i (wpAny P md ops Q fuel (listed.setIfInBounds i true)) a w) (h' : wpOp P ops Q j (wpAny P md ops Q fuel (listed.setIfInBounds j true)) a w) : wpAny P md ops Q (fuel + 1) listed a w :=
  wpAny_all hr (by simp) (fun k hk => by
    rcases List.mem_cons.1 hk with rfl | hk
    · exact h
    · obtain rfl := List.mem_singleton.1 hk; exact h')
end
end Go.Proofs.Ytaeapoidigglnaa
