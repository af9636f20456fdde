/-
  Plain law: one number more in a row that may be, if there is room, and it may still be. No program in sight.
-/
import Derived.Test.YthncfjfgjdeajaaInhLaw
namespace Go.Proofs.Ythncfjfgjdeajaa
open Go.RowKit

def okG (g : Int) : Prop := 0 ≤ g ∧ g ≤ 1099511627776
theorem stepG_all (gs : List Int) : ∀ s, (∀ g ∈ gs, okG g) → gs.foldl stepG (true, s) = (true, s + gs.sum) := by
  induction gs with
  | nil => intro s _; simp
  | cons g gs ih =>
    intro s h
    have hg := h g (by simp)
    rw [List.foldl_cons, show stepG (true, s) g = (true, s + g) from by unfold stepG; rw [if_pos ⟨rfl, hg.1, hg.2⟩], ih _ (fun k hk => h k (by simp [hk])), List.sum_cons]
    congr 1; omega
theorem stepG_bad (gs : List Int) : ∀ s, (gs.foldl stepG (true, s)).1 = true → ∀ g ∈ gs, okG g := by
  induction gs with
  | nil => intro s _ g hg; simp at hg
  | cons g gs ih =>
    intro s h
    rw [List.foldl_cons] at h
    by_cases hg : 0 ≤ g ∧ g ≤ 1099511627776
    · rw [show stepG (true, s) g = (true, s + g) from by unfold stepG; rw [if_pos ⟨rfl, hg.1, hg.2⟩]] at h
      intro k hk
      rcases List.mem_cons.1 hk with rfl | hk
      · exact hg
      · exact ih _ h k hk
    · rw [show stepG (true, s) g = (false, s) from by unfold stepG; rw [if_neg (fun h => hg h.2)], stepG_no] at h
      cases h
theorem cellB_iff (c : List Int) : cellB c = true ↔ okG (gi c 0) ∧ okG (gi c 1) ∧ (∀ g ∈ sub c 2 5, okG g) ∧ (sub c 2 5).sum ≤ 1099511627776 := by
  have hio : ioB c = true ↔ okG (gi c 0) ∧ okG (gi c 1) := by unfold ioB okG; simp [and_assoc]
  unfold cellB finB
  rw [Bool.true_and]
  cases h : ioB c
  · rw [stepG_no]
    constructor
    · intro h; simp at h
    · rintro ⟨a, b, _⟩
      rw [hio.2 ⟨a, b⟩] at h; cases h
  · have hio2 := hio.1 h
    constructor
    · intro h1
      simp only [Bool.and_eq_true, decide_eq_true_eq] at h1
      have := stepG_bad _ _ h1.1
      rw [stepG_all _ _ this] at h1
      exact ⟨hio2.1, hio2.2, this, by simpa using h1.2⟩
    · rintro ⟨_, _, c1, c2⟩
      rw [stepG_all _ _ c1]
      simpa using c2
theorem sum_nonneg (l : List Int) (h : ∀ g ∈ l, 0 ≤ g) : 0 ≤ l.sum := by
  induction l with
  | nil => simp
  | cons a l ih => rw [List.sum_cons]; have := ih (fun g hg => h g (by simp [hg])); have := h a (by simp); omega
theorem le_sum (l : List Int) (h : ∀ g ∈ l, 0 ≤ g) : ∀ g ∈ l, g ≤ l.sum := by
  induction l with
  | nil => intro g hg; simp at hg
  | cons a l ih =>
    intro g hg
    rw [List.sum_cons]
    have h0 := sum_nonneg l (fun g hg => h g (by simp [hg]))
    have h1 := h a (by simp)
    rcases List.mem_cons.1 hg with rfl | hg
    · omega
    · have := ih (fun g hg => h g (by simp [hg])) g hg; omega
theorem sum_set (l : List Int) : ∀ (i : Nat) (v : Int), i < l.length → (l.set i v).sum = l.sum - gi l i + v := by
  induction l with
  | nil => intro i v h; simp at h
  | cons a l ih =>
    intro i v h
    cases i with
    | zero => rw [List.set_cons_zero, List.sum_cons, List.sum_cons]; simp [gi]; omega
    | succ i =>
      rw [List.set_cons_succ, List.sum_cons, List.sum_cons, ih i v (by simpa using h)]
      have : gi (a :: l) (i + 1) = gi l i := by simp [gi]
      rw [this]; omega
theorem sub_set_same (zs : List Int) (off n f : Nat) (v : Int) : sub (zs.set (off + f) v) off n = (sub zs off n).set f v := by
  apply List.ext_getElem?
  intro i
  rw [List.getElem?_set, getElem?_sub, getElem?_sub, List.getElem?_set, sub_len]
  by_cases h : f = i
  · subst h
    rw [if_pos rfl, if_pos rfl]
    by_cases h1 : f < n
    · rw [if_pos h1]
      by_cases h2 : off + f < zs.length
      · rw [if_pos h2, if_pos (by omega)]
      · rw [if_neg h2, if_neg (by omega)]
    · rw [if_neg h1, if_neg (by omega)]
  · have h2 : ¬ off + f = off + i := by omega
    rw [if_neg h, if_neg h2]
theorem cellAt_eq (x : List Int) (j : Nat) (h : j < 4) : cellAt (cellsOf x) j = sub x (1 + j * 7) 7 := by
  unfold cellAt cellsOf sub
  rw [List.drop_take, List.drop_drop, List.take_take]
  congr 1
  omega
theorem mem_gi (l : List Int) (g : Int) (h : g ∈ l) : ∃ i, i < l.length ∧ g = gi l i := by
  obtain ⟨i, hi, rfl⟩ := List.getElem_of_mem h
  exact ⟨i, hi, by simp [gi, hi]⟩
theorem gi_mem (l : List Int) (i : Nat) (h : i < l.length) : gi l i ∈ l := by
  simp [gi, h]
/-- what counts with a number: itself, or the sum of what was given -/
def cntF (x : List Int) (key f : Nat) : Int := if f < 2 then gi x (1 + key * 7 + f) else (sub x (1 + key * 7 + 2) 5).sum
theorem cell_more (c : List Int) (f : Nat) (n : Int) (hc : c.length = 7) (hf : f < 7) (hn : 1 ≤ n) (h : cellB c = true) (hr : (if f < 2 then gi c f else (sub c 2 5).sum) ≤ 1099511627776 - n) : cellB (c.set f (gi c f + n)) = true := by
  rw [cellB_iff] at h ⊢
  obtain ⟨a, b, c1, c2⟩ := h
  unfold okG at *
  have hsl : (sub c 2 5).length = 5 := by rw [sub_len]; omega
  by_cases h2 : f < 2
  · rw [if_pos h2] at hr
    rw [sub_set_other _ _ _ _ _ (.inl h2), gi_set, gi_set]
    refine ⟨?_, ?_, c1, c2⟩
    · by_cases h0 : f = 0
      · subst h0; rw [if_pos ⟨rfl, by omega⟩]; omega
      · rw [if_neg (by omega)]; exact a
    · by_cases h0 : f = 1
      · subst h0; rw [if_pos ⟨rfl, by omega⟩]; omega
      · rw [if_neg (by omega)]; exact b
  · rw [if_neg h2] at hr
    obtain ⟨t, rfl⟩ : ∃ t, f = 2 + t := ⟨f - 2, by omega⟩
    rw [sub_set_same, gi_set, if_neg (by omega), gi_set, if_neg (by omega)]
    have hg : gi c (2 + t) = gi (sub c 2 5) t := (gi_sub c 2 5 t (by omega)).symm
    rw [hg]
    have hle := le_sum _ (fun g hg => (c1 g hg).1) _ (gi_mem (sub c 2 5) t (by omega))
    have h0 := c1 _ (gi_mem (sub c 2 5) t (by omega))
    refine ⟨a, b, fun g hg2 => ?_, ?_⟩
    · rcases List.mem_or_eq_of_mem_set hg2 with h | rfl
      · exact c1 g h
      · omega
    · rw [sum_set _ _ _ (by omega)]; omega
theorem more_right (x : List Int) (key f : Nat) (n : Int) (hx : x.length = 174) (hr : rowB x = true) (hk : key < 4) (hf : f < 7) (hn : 1 ≤ n) (hc : cntF x key f ≤ 1099511627776 - n) : rowB (moreF x (1 + key * 7 + f) n) = true := by
  obtain ⟨a1, a2, a3⟩ := rowB_of hr
  unfold rowB
  simp only [Bool.and_eq_true, decide_eq_true_eq]
  refine ⟨⟨by rw [more_0 _ _ _ (by omega)]; omega, (allB_iff _ 4).2 fun j hj => ?_⟩, (allB_iff _ 5).2 fun i hi => ?_⟩
  · have hcj := (allB_iff _ 4).1 a2 j hj
    show cellB (cellAt (cellsOf (moreF x (1 + key * 7 + f) n)) j) = true
    replace hcj : cellB (cellAt (cellsOf x) j) = true := hcj
    rw [cellAt_eq _ j hj] at hcj ⊢
    unfold moreF
    rw [sub_set_other _ _ _ _ _ (by omega)]
    by_cases he : j = key
    · subst he
      rw [sub_set_same]
      have hg : gi x (1 + j * 7 + f) = gi (sub x (1 + j * 7) 7) f := (gi_sub x _ 7 f hf).symm
      rw [hg]
      refine cell_more _ f n (by rw [sub_len]; omega) hf hn hcj ?_
      have h2 : sub (sub x (1 + j * 7) 7) 2 5 = sub x (1 + j * 7 + 2) 5 := by
        unfold sub; rw [List.drop_take, List.drop_drop, List.take_take]; congr 1
      rw [h2, ← hg]
      exact hc
    · rw [sub_set_other _ _ _ _ _ (by omega)]
      exact hcj
  · obtain ⟨c1, c2, c3⟩ := leftB_of (a3 i hi)
    have e1 : gi (moreF x (1 + key * 7 + f) n) (29 + i) = gi x (29 + i) := by
      unfold moreF; rw [gi_set, if_neg (by omega), gi_set, if_neg (by omega)]
    have e2 : leftOf (moreF x (1 + key * 7 + f) n) i = leftOf x i := by
      rw [leftOf_eq _ i hi, leftOf_eq _ i hi]; unfold moreF
      rw [sub_set_other _ _ _ _ _ (by omega), sub_set_other _ _ _ _ _ (by omega)]
    exact leftB_mk (by rw [e1]; exact c1) (by rw [e1, e2]; exact c2) (by rw [e2]; exact c3)
/-- so much is given -/
def giveF (x : List Int) (key n tt : Int) : List Int × Int :=
  if machB tt = true ∧ askedB key n = true then (if 1099511627776 - n < (sub x (1 + key.toNat * 7 + 2) 5).sum then (nau 174, 6) else (moreF x (1 + key.toNat * 7 + 2 + tt.toNat) n, 0)) else (nau 174, 5)
end Go.Proofs.Ythncfjfgjdeajaa
