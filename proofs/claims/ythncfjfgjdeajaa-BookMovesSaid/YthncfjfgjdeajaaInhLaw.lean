/-
  Plain law: what Inherit makes of a row, place by place, and that it may be. No program in sight.
-/
import Derived.Test.YthncfjfgjdeajaaRow6
namespace Go.Proofs.Ythncfjfgjdeajaa
open Go.RowKit

theorem putL_heir (y : List Int) (i j : Nat) (h : Int) (l : List Int) (hy : y.length = 174) (hi : i < 5) (hj : j < 5) (hl : l.length = 28) : gi (putL y i h l) (29 + j) = if j = i then h else gi y (29 + j) := by
  unfold putL
  rw [gi_spl _ _ _ _ (by rw [List.length_set, hy, hl]; omega), if_neg (by omega), gi_set]
  by_cases he : j = i
  · rw [if_pos ⟨by omega, by omega⟩, if_pos he]
  · rw [if_neg (by omega), if_neg he]
theorem putL_left (y : List Int) (i j : Nat) (h : Int) (l : List Int) (hy : y.length = 174) (hi : i < 5) (hj : j < 5) (hl : l.length = 28) : leftOf (putL y i h l) j = if j = i then l else leftOf y j := by
  rw [leftOf_eq _ j hj, leftOf_eq _ j hj]
  unfold putL
  by_cases he : j = i
  · subst he
    rw [if_pos rfl]
    have := sub_spl_same (y.set (29 + j) h) l (34 + j * 28) (by rw [List.length_set, hy, hl]; omega)
    rw [hl] at this
    exact this
  · rw [if_neg he, sub_spl_other _ _ _ _ _ (by rw [List.length_set, hy, hl]; omega) (by omega), sub_set_other _ _ _ _ _ (by omega)]
theorem putL_cells (y : List Int) (i : Nat) (h : Int) (l : List Int) (hy : y.length = 174) (hi : i < 5) (hl : l.length = 28) : cellsOf (putL y i h l) = cellsOf y := by
  unfold cellsOf putL
  rw [sub_spl_other _ _ _ _ _ (by rw [List.length_set, hy, hl]; omega) (by omega), sub_set_other _ _ _ _ _ (by omega)]

/-- whose heir's row is taken over at a place -/
def cmB (who : Int) (dead y : List Int) (i : Nat) : Prop := (i : Int) ≠ who ∧ 0 < gi dead (29 + i) ∧ gi y (29 + i) = 0
instance (who : Int) (dead y : List Int) (i : Nat) : Decidable (cmB who dead y i) := by unfold cmB; infer_instance
theorem inhTo_at (who : Int) (dead y : List Int) (hy : y.length = 174) (hd : dead.length = 174) : ∀ k, k ≤ 5 → cellsOf (inhTo who dead y k) = cellsOf y ∧ ∀ i, i < 5 →
    gi (inhTo who dead y k) (29 + i) = (if i < k ∧ cmB who dead y i then gi dead (29 + i) else gi y (29 + i)) ∧ leftOf (inhTo who dead y k) i = (if i < k ∧ cmB who dead y i then leftOf dead i else leftOf y i)
  | 0, _ => ⟨rfl, fun i _ => by rw [if_neg (by omega), if_neg (by omega)]; exact ⟨rfl, rfl⟩⟩
  | k + 1, hk => by
    obtain ⟨hc, ih⟩ := inhTo_at who dead y hy hd k (by omega)
    have hl := (inhTo_len who dead y hy hd k (by omega)).1
    have hkk := (ih k (by omega)).1
    rw [if_neg (by omega)] at hkk
    show cellsOf (inhStep who dead (inhTo who dead y k) k) = _ ∧ ∀ i, i < 5 → gi (inhStep who dead (inhTo who dead y k) k) (29 + i) = _ ∧ leftOf (inhStep who dead (inhTo who dead y k) k) i = _
    by_cases hcm : cmB who dead y k
    · rw [show inhStep who dead (inhTo who dead y k) k = putL (inhTo who dead y k) k (gi dead (29 + k)) (leftOf dead k) from by unfold inhStep; rw [if_pos (by rw [hkk]; exact hcm)]]
      refine ⟨(putL_cells _ k _ _ hl (by omega) (leftOf_len dead k hd (by omega))).trans hc, fun i hi => ?_⟩
      rw [putL_heir _ k i _ _ hl (by omega) hi (leftOf_len dead k hd (by omega)), putL_left _ k i _ _ hl (by omega) hi (leftOf_len dead k hd (by omega))]
      by_cases he : i = k
      · subst he
        rw [if_pos rfl, if_pos rfl, if_pos ⟨by omega, hcm⟩, if_pos ⟨by omega, hcm⟩]
        exact ⟨rfl, rfl⟩
      · rw [if_neg he, if_neg he, (ih i hi).1, (ih i hi).2]
        have : (i < k ∧ cmB who dead y i) ↔ (i < k + 1 ∧ cmB who dead y i) := ⟨fun h => ⟨by omega, h.2⟩, fun h => ⟨by omega, h.2⟩⟩
        simp only [this, and_self]
    · rw [show inhStep who dead (inhTo who dead y k) k = inhTo who dead y k from by unfold inhStep; rw [if_neg (by rw [hkk]; exact hcm)]]
      refine ⟨hc, fun i hi => ?_⟩
      rw [(ih i hi).1, (ih i hi).2]
      have : (i < k ∧ cmB who dead y i) ↔ (i < k + 1 ∧ cmB who dead y i) := ⟨fun h => ⟨by omega, h.2⟩, fun h => ⟨by
        have h1 := h.1
        have : i ≠ k := fun e => hcm (e ▸ h.2)
        omega, h.2⟩⟩
      simp only [this, and_self]

section
variable (x dead : List Int) (who : Int) (hx : x.length = 174) (hd : dead.length = 174) (h1 : machB who = true)
include hx hd h1
theorem inhY_0 : gi (inhY x who dead) 0 = gi x 0 + 1 := by
  obtain ⟨ho0, ho1⟩ := mach_of h1
  have hl := (inhTo_len who dead _ (putL_len x who.toNat (gi dead 0 + 1) (cellsOf dead) hx (by omega) (cellsOf_len dead hd)) hd 5 (by omega)).1
  unfold inhY inh0
  rw [gi_set, if_pos ⟨rfl, by rw [hl]; omega⟩]
theorem inhY_cells : cellsOf (inhY x who dead) = cellsOf x := by
  obtain ⟨ho0, ho1⟩ := mach_of h1
  have h0 := putL_len x who.toNat (gi dead 0 + 1) (cellsOf dead) hx (by omega) (cellsOf_len dead hd)
  have := (inhTo_at who dead _ h0 hd 5 (by omega)).1
  unfold inhY inh0 cellsOf
  rw [sub_set_other _ _ _ _ _ (by omega)]
  exact this.trans (putL_cells x _ _ _ hx (by omega) (cellsOf_len dead hd))
theorem inhY_at (i : Nat) (hi : i < 5) : gi (inhY x who dead) (29 + i) = (if (i : Int) = who then gi dead 0 + 1 else if 0 < gi dead (29 + i) ∧ gi x (29 + i) = 0 then gi dead (29 + i) else gi x (29 + i)) ∧
    leftOf (inhY x who dead) i = (if (i : Int) = who then cellsOf dead else if 0 < gi dead (29 + i) ∧ gi x (29 + i) = 0 then leftOf dead i else leftOf x i) := by
  obtain ⟨ho0, ho1⟩ := mach_of h1
  have hcl := cellsOf_len dead hd
  have h0 := putL_len x who.toNat (gi dead 0 + 1) (cellsOf dead) hx (by omega) hcl
  obtain ⟨ha, hb⟩ := (inhTo_at who dead _ h0 hd 5 (by omega)).2 i hi
  have e1 : gi (inhY x who dead) (29 + i) = gi (inhTo who dead (inh0 x who dead) 5) (29 + i) := by unfold inhY; rw [gi_set, if_neg (by omega)]
  have e2 : leftOf (inhY x who dead) i = leftOf (inhTo who dead (inh0 x who dead) 5) i := by
    rw [leftOf_eq _ i hi, leftOf_eq _ i hi]; unfold inhY; rw [sub_set_other _ _ _ _ _ (by omega)]
  rw [e1, e2]
  have p1 := putL_heir x who.toNat i (gi dead 0 + 1) (cellsOf dead) hx (by omega) hi hcl
  have p2 := putL_left x who.toNat i (gi dead 0 + 1) (cellsOf dead) hx (by omega) hi hcl
  have e0 : inh0 x who dead = putL x who.toNat (gi dead 0 + 1) (cellsOf dead) := rfl
  rw [e0, ha, hb]
  generalize putL x who.toNat (gi dead 0 + 1) (cellsOf dead) = q at *
  by_cases he : (i : Int) = who
  · have : i = who.toNat := by omega
    rw [if_pos this] at p1 p2
    rw [if_pos he, if_pos he, if_neg (fun h => h.2.1 he), if_neg (fun h => h.2.1 he)]
    exact ⟨p1, p2⟩
  · have : ¬ i = who.toNat := by omega
    rw [if_neg this] at p1 p2
    rw [if_neg he, if_neg he]
    by_cases hc : 0 < gi dead (29 + i) ∧ gi x (29 + i) = 0
    · have hcm : cmB who dead q i := ⟨he, hc.1, by rw [p1]; exact hc.2⟩
      rw [if_pos hc, if_pos hc, if_pos ⟨hi, hcm⟩, if_pos ⟨hi, hcm⟩]
      exact ⟨rfl, rfl⟩
    · have hcm : ¬ cmB who dead q i := fun h => hc ⟨h.2.1, by rw [← p1]; exact h.2.2⟩
      rw [if_neg hc, if_neg hc, if_neg (fun h => hcm h.2), if_neg (fun h => hcm h.2)]
      exact ⟨p1, p2⟩
end

theorem rowB_of {x : List Int} (h : rowB x = true) : 0 ≤ gi x 0 ∧ cellsB (cellsOf x) = true ∧ ∀ i, i < 5 → leftB x i = true := by
  unfold rowB at h
  simp only [Bool.and_eq_true, decide_eq_true_eq] at h
  exact ⟨h.1.1, h.1.2, (allB_iff _ 5).1 h.2⟩
theorem leftB_of {x : List Int} {i : Nat} (h : leftB x i = true) : 0 ≤ gi x (29 + i) ∧ (0 < gi x (29 + i) ∨ leftOf x i = nau 28) ∧ cellsB (leftOf x i) = true := by
  unfold leftB at h
  simp only [Bool.and_eq_true, Bool.or_eq_true, decide_eq_true_eq] at h
  exact ⟨h.1.1, h.1.2, h.2⟩
theorem leftB_mk {x : List Int} {i : Nat} (h1 : 0 ≤ gi x (29 + i)) (h2 : 0 < gi x (29 + i) ∨ leftOf x i = nau 28) (h3 : cellsB (leftOf x i) = true) : leftB x i = true := by
  unfold leftB
  simp only [Bool.and_eq_true, Bool.or_eq_true, decide_eq_true_eq]
  exact ⟨⟨h1, h2⟩, h3⟩
/-- what comes of two rows that may be may be -/
theorem inhY_right (x dead : List Int) (who : Int) (hx : x.length = 174) (hd : dead.length = 174) (h1 : machB who = true) (hrx : rowB x = true) (hrd : rowB dead = true) : rowB (inhY x who dead) = true := by
  obtain ⟨a1, a2, a3⟩ := rowB_of hrx
  obtain ⟨b1, b2, b3⟩ := rowB_of hrd
  unfold rowB
  simp only [Bool.and_eq_true, decide_eq_true_eq]
  refine ⟨⟨by rw [inhY_0 x dead who hx hd h1]; omega, by rw [inhY_cells x dead who hx hd h1]; exact a2⟩, (allB_iff _ 5).2 fun i hi => ?_⟩
  obtain ⟨e1, e2⟩ := inhY_at x dead who hx hd h1 i hi
  obtain ⟨c1, c2, c3⟩ := leftB_of (a3 i hi)
  obtain ⟨d1, d2, d3⟩ := leftB_of (b3 i hi)
  by_cases he : (i : Int) = who
  · rw [if_pos he] at e1 e2
    exact leftB_mk (by rw [e1]; omega) (.inl (by rw [e1]; omega)) (by rw [e2]; exact b2)
  · rw [if_neg he] at e1 e2
    by_cases hc : 0 < gi dead (29 + i) ∧ gi x (29 + i) = 0
    · rw [if_pos hc] at e1 e2
      exact leftB_mk (by rw [e1]; exact d1) (.inl (by rw [e1]; exact hc.1)) (by rw [e2]; exact d3)
    · rw [if_neg hc] at e1 e2
      exact leftB_mk (by rw [e1]; exact c1) (by rw [e1, e2]; exact c2) (by rw [e2]; exact c3)
end Go.Proofs.Ythncfjfgjdeajaa
