/-
  Plain law: rights are reckoned by the cells, and sum up to the value; what is given moves rights. No program in sight.
-/
import Derived.Test.YthncfjfgjdeajaaBook3
namespace Go.Proofs.Ythncfjfgjdeajaa
open Go.RowKit
/-- a machine's own share -/
def term (cs : List Int) (i : Nat) : Int := (gi cs (i * 7) - gi cs (i * 7 + 1)) + rIn cs i 5
/-- the shares of those of the first so many that are one's own -/
def rS (cs x : List Int) (who : Int) : Nat → Int
  | 0 => 0
  | j + 1 => rS cs x who j + (if ownP x who j = true then term cs j else 0)
theorem gi_app_left {a b : List Int} {i : Nat} (h : i < a.length) : gi (a ++ b) i = gi a i := by
  unfold gi; rw [List.getD_eq_getElem?_getD, List.getD_eq_getElem?_getD, List.getElem?_append_left h]
theorem gi_app_last {a : List Int} {z : Int} : gi (a ++ [z]) a.length = z := by
  unfold gi; simp
theorem rTo_app (cs a b : List Int) : ∀ j, j ≤ a.length → rTo cs (a ++ b) j = rTo cs a j
  | 0, _ => rfl
  | j + 1, h => by
    unfold rTo
    rw [rTo_app cs a b j (by omega), gi_app_left (by omega)]
theorem rTo_own (cs x : List Int) (who : Int) : ∀ j, rTo cs (ownTo x who j) (ownTo x who j).length = rS cs x who j
  | 0 => rfl
  | j + 1 => by
    rw [ownTo_succ]
    unfold rS
    split
    · rw [List.length_append, List.length_singleton, rTo, rTo_app _ _ _ _ (Nat.le_refl _), rTo_own cs x who j, gi_app_last, Int.toNat_natCast]
      unfold term; omega
    · rw [List.append_nil, rTo_own cs x who j, Int.add_zero]
theorem rights_eq {m : List Int} {p : Nat} {key : Int} (hp : p < 5) : rightsF m p key = rS (allC m key 5) (sub m (p * 174) 174) p 5 := by
  have hm : machB (p : Int) = true := by have : (p : Int) < 5 := by omega
                                         simp [machB, this]
  unfold rightsF
  rw [if_pos hm, Int.toNat_natCast, rTo_own]
/-- where no row came into others all rights together are the value -/
theorem rS_alone {cs x : List Int} {p : Nat} (h : ∀ i, i < 5 → gi x (29 + i) = 0) (hp : p < 5) : rS cs x p 5 = term cs p := by
  have ho : ∀ i, i < 5 → ownP x p i = decide (i = p) := by
    intro i hi
    unfold ownP
    rw [h i hi]
    simp only [Int.natCast_inj, Int.lt_irrefl, decide_false, Bool.or_false]
  have hc : p = 0 ∨ p = 1 ∨ p = 2 ∨ p = 3 ∨ p = 4 := by omega
  simp only [rS, ho 0 (by omega), ho 1 (by omega), ho 2 (by omega), ho 3 (by omega), ho 4 (by omega)]
  rcases hc with rfl | rfl | rfl | rfl | rfl <;> simp
theorem sums_law {m : List Int} (hk : Bk m) (key : Int) (h : ∀ p, p < 5 → ∀ i, i < 5 → gi (sub m (p * 174) 174) (29 + i) = 0) :
    rightsF m (0 : Nat) key + rightsF m (1 : Nat) key + rightsF m (2 : Nat) key + rightsF m (3 : Nat) key + rightsF m (4 : Nat) key = vTo m key 5 := by
  rw [rights_eq (by omega), rights_eq (by omega), rights_eq (by omega), rights_eq (by omega), rights_eq (by omega),
    rS_alone (h 0 (by omega)) (by omega), rS_alone (h 1 (by omega)) (by omega), rS_alone (h 2 (by omega)) (by omega), rS_alone (h 3 (by omega)) (by omega), rS_alone (h 4 (by omega)) (by omega)]
  have e : ∀ o f, o < 5 → f < 7 → gi (allC m key 5) (o * 7 + f) = gi (bCell m o key) f := fun o f => allC_at hk key 5 (Nat.le_refl _) o f
  have a0 := e 0 0 (by omega) (by omega); have a1 := e 0 1 (by omega) (by omega)
  have b0 := e 1 0 (by omega) (by omega); have b1 := e 1 1 (by omega) (by omega)
  have c0 := e 2 0 (by omega) (by omega); have c1 := e 2 1 (by omega) (by omega)
  have d0 := e 3 0 (by omega) (by omega); have d1 := e 3 1 (by omega) (by omega)
  have f0 := e 4 0 (by omega) (by omega); have f1 := e 4 1 (by omega) (by omega)
  simp only [Nat.zero_mul, Nat.one_mul, Nat.add_zero, Nat.zero_add, Nat.reduceMul, Nat.reduceAdd] at a0 a1 b0 b1 c0 c1 d0 d1 f0 f1
  simp only [term, rIn, vTo, Nat.zero_mul, Nat.one_mul, Nat.add_zero, Nat.zero_add, Nat.reduceMul, Nat.reduceAdd]
  rw [← a0, ← a1, ← b0, ← b1, ← c0, ← c1, ← d0, ← d1, ← f0, ← f1]
  omega
/-- the rights that the law reckons, by the first so many -/
theorem rS_bound {cs : List Int} (h : ∀ i, 0 ≤ gi cs i ∧ gi cs i ≤ 1099511627776) (x : List Int) (who : Int) : ∀ j : Nat, -(j * 6597069766656 : Int) ≤ rS cs x who j ∧ rS cs x who j ≤ j * 6597069766656
  | 0 => by simp [rS]
  | j + 1 => by
    have ih := rS_bound h x who j
    have h0 := h (j * 7)
    have h1 := h (j * 7 + 1)
    have h2 := rIn_bound h j 5
    have e : ((j + 1 : Nat) : Int) * 6597069766656 = j * 6597069766656 + 6597069766656 := by omega
    unfold rS term
    rw [e]
    split <;> omega
/-- cells of what is none -/
theorem cTo_none {m : List Int} {of_ key : Int} (h : machB of_ = false ∨ key < 0 ∨ 4 ≤ key) : ∀ j, cTo m of_ key j = (nau 7, -1)
  | 0 => rfl
  | j + 1 => by
    have e : cellF (sub m (j * 174) 174) j of_ key = (nau 7, -1) := by
      unfold cellF
      rw [if_neg]
      rintro ⟨h1, h2, h3, h4⟩
      rcases h with h | h | h
      · rw [h2] at h; cases h
      · omega
      · omega
    unfold cTo
    rw [e, cTo_none h j]
    rfl
theorem bCell_none {m : List Int} {of_ key : Int} (h : machB of_ = false ∨ key < 0 ∨ 4 ≤ key) : bCell m of_ key = nau 7 := by
  unfold bCell; rw [cTo_none h]
theorem vTo_none {m : List Int} {key : Int} (h : key < 0 ∨ 4 ≤ key) : vTo m key 5 = 0 := by
  have e : ∀ j : Int, bCell m j key = nau 7 := fun j => bCell_none (.inr h)
  simp only [vTo, e, gi_nau]
  rfl
theorem rights_none {m : List Int} (hk : Bk m) {who key : Int} (h : machB who = false ∨ key < 0 ∨ 4 ≤ key) : rightsF m who key = 0 := by
  cases hm : machB who
  · unfold rightsF; rw [if_neg (by rw [hm]; decide)]
  · obtain ⟨h0, h5⟩ := mach_of hm
    obtain ⟨p, rfl⟩ : ∃ p : Nat, who = p := ⟨who.toNat, by omega⟩
    have hp : p < 5 := by omega
    rw [hm] at h
    replace h : key < 0 ∨ 4 ≤ key := h.resolve_left (by decide)
    rw [rights_eq hp]
    have e : ∀ i, gi (allC m key 5) i = 0 := by
      intro i
      by_cases hi : i < 35
      · have := allC_at hk key 5 (Nat.le_refl _) (i / 7) (i % 7) (by omega) (by omega)
        rw [show i / 7 * 7 + i % 7 = i from by omega] at this
        rw [this, bCell_none (.inr h), gi_nau]
      · exact gi_far (by rw [allC_len hk key 5 (Nat.le_refl _)]; omega)
    simp only [rS, term, rIn, e]
    simp
end Go.Proofs.Ythncfjfgjdeajaa
