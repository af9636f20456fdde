/-
  How the cells of an argument are taken one by one. Conditions: the form's own reach.
-/
import Derived.Test.YtaeapoidigglnaaOpenR
namespace Go.Proofs.Ytaeapoidigglnaa
open Go.RowKit
theorem All2.un {w : World} {p : World → Value → Prop} {ps : List (World → Value → Prop)} : ∀ {cs : List Value}, All2 w (p :: ps) cs → ∃ v vs, cs = v :: vs ∧ p w v ∧ All2 w ps vs
  | _ :: _, h => ⟨_, _, rfl, h.1, h.2⟩
theorem All2.unI {w : World} {ps : List (World → Value → Prop)} {cs : List Value} (h : All2 w (pInt :: ps) cs) : ∃ (z : Int) (vs : List Value), cs = .int .i64 z :: vs ∧ All2 w ps vs := by
  obtain ⟨v, vs, rfl, ⟨z, rfl, _⟩, h'⟩ := h.un
  exact ⟨z, vs, rfl, h'⟩
theorem All2.unB {w : World} {ps : List (World → Value → Prop)} {cs : List Value} (h : All2 w (pBool :: ps) cs) : ∃ (z : Bool) (vs : List Value), cs = .bool z :: vs ∧ All2 w ps vs := by
  obtain ⟨v, vs, rfl, ⟨z, rfl⟩, h'⟩ := h.un
  exact ⟨z, vs, rfl, h'⟩
theorem All2.done {w : World} : ∀ {cs : List Value}, All2 w [] cs → cs = []
  | [], _ => rfl
end Go.Proofs.Ytaeapoidigglnaa
