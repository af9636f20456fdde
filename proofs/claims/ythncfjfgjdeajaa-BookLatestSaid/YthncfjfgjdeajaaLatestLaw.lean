/-
  Plain law: the order in which rows come plays no part; an elder one changes nothing. No program in sight.
-/
import Derived.Test.YthncfjfgjdeajaaBook
namespace Go.Proofs.Ythncfjfgjdeajaa
open Go.RowKit
/-- a book, behind the first so many merges of a machine's rows -/
def mS (row : Nat → List Int) (idx : Nat → Nat) : Nat → List Int
  | 0 => nau 870
  | j + 1 => mergeM (mS row idx j) 2 (row (idx j))
theorem mS_bk {row : Nat → List Int} {idx : Nat → Nat} (n : Nat) (hi : ∀ j, j < n → (row (idx j)).length = 174 ∧ Wf (row (idx j))) : ∀ j, j ≤ n → Bk (mS row idx j)
  | 0, _ => Bk.start
  | j + 1, h => (mS_bk n hi j (by omega)).merge 2 _ (hi j (by omega)).1 (hi j (by omega)).2
theorem gi_nau0 (n i : Nat) : gi (nau n) i = 0 := by
  unfold gi nau; rw [List.getD_eq_getElem?_getD, List.getElem?_replicate]; split <;> rfl
theorem mS_law {row : Nat → List Int} {idx : Nat → Nat} (n : Nat) (hi : ∀ j, j < n → (row (idx j)).length = 174 ∧ Wf (row (idx j))) : ∀ j, j ≤ n →
    (∀ i, i < j → rowB (row (idx i)) = true → gi (row (idx i)) 0 ≤ gi (mS row idx j) 348) ∧
    (sub (mS row idx j) 348 174 = nau 174 ∨ ∃ i, i < j ∧ sub (mS row idx j) 348 174 = row (idx i) ∧ rowB (row (idx i)) = true ∧ 0 < gi (row (idx i)) 0)
  | 0, _ => ⟨fun i h => by omega, .inl (sub_nau _ _ _ (by omega))⟩
  | j + 1, h => by
    obtain ⟨h1, h2⟩ := mS_law n hi j (by omega)
    have hl := (mS_bk n hi j (by omega)).len
    have hb := mS_bk n hi j (by omega)
    obtain ⟨xl, _⟩ := hi j (by omega)
    have e0 : ∀ m : List Int, gi m 348 = gi (sub m 348 174) 0 := fun m => by rw [gi_sub _ _ _ _ (by omega)]
    cases hm : mergeB (mS row idx j) 2 (row (idx j))
    · have e : mS row idx (j + 1) = mS row idx j := by
        show mergeM (mS row idx j) 2 (row (idx j)) = _
        unfold mergeM; rw [if_neg (by rw [hm]; decide)]
      rw [e]
      refine ⟨fun i hij hr => ?_, ?_⟩
      · by_cases he : i = j
        · subst he
          unfold mergeB at hm
          rw [hr] at hm
          simp [machB] at hm
          exact hm
        · exact h1 i (by omega) hr
      · rcases h2 with h2 | ⟨i, a, b⟩
        · exact .inl h2
        · exact .inr ⟨i, by omega, b⟩
    · have e : mS row idx (j + 1) = spl (mS row idx j) 348 (row (idx j)) := by
        show mergeM (mS row idx j) 2 (row (idx j)) = _
        unfold mergeM; rw [if_pos hm]; rfl
      have es : sub (mS row idx (j + 1)) 348 174 = row (idx j) := by
        rw [e]
        have := sub_spl_same (mS row idx j) (row (idx j)) 348 (by omega)
        rwa [xl] at this
      have hlt : gi (mS row idx j) 348 < gi (row (idx j)) 0 := by
        unfold mergeB at hm
        simp only [Bool.and_eq_true, decide_eq_true_eq] at hm
        exact hm.2
      have hge : 0 ≤ gi (mS row idx j) 348 := by
        have := (rowB_of (hb.row 2 (by omega)).1).1
        rw [e0]; exact this
      refine ⟨fun i hij hr => ?_, .inr ⟨j, by omega, es, (mergeB_mach hm).2, by omega⟩⟩
      rw [e0, es]
      by_cases he : i = j
      · subst he; exact Int.le_refl _
      · have := h1 i (by omega) hr
        omega
/-- two orders of the same rows -/
theorem latest_same {row : Nat → List Int} {f g : Nat → Nat} {n : Nat} (hr : ∀ j, j < n → (row j).length = 174 ∧ Wf (row j)) (hf : ∀ j, j < n → f j < n) (hg : ∀ j, j < n → g j < n)
    (hf2 : ∀ i, i < n → ∃ j, j < n ∧ f j = i) (hg2 : ∀ i, i < n → ∃ j, j < n ∧ g j = i) (hd : ∀ i j, i < n → j < n → gi (row i) 0 = gi (row j) 0 → i = j) :
    sub (mS row f n) 348 174 = sub (mS row g n) 348 174 := by
  obtain ⟨a1, a2⟩ := mS_law n (fun j h => hr _ (hf j h)) n (Nat.le_refl _)
  obtain ⟨b1, b2⟩ := mS_law n (fun j h => hr _ (hg j h)) n (Nat.le_refl _)
  have e0 : ∀ m : List Int, gi m 348 = gi (sub m 348 174) 0 := fun m => by rw [gi_sub _ _ _ _ (by omega)]
  rw [e0] at a1 b1
  rcases a2 with a2 | ⟨i, i1, i2, i3, i4⟩ <;> rcases b2 with b2 | ⟨k, k1, k2, k3, k4⟩
  · rw [a2, b2]
  · obtain ⟨q, q1, q2⟩ := hf2 (g k) (hg k k1)
    have := a1 q q1 (by rw [q2]; exact k3)
    rw [a2, gi_nau0, q2] at this; omega
  · obtain ⟨q, q1, q2⟩ := hg2 (f i) (hf i i1)
    have := b1 q q1 (by rw [q2]; exact i3)
    rw [b2, gi_nau0, q2] at this; omega
  · obtain ⟨q, q1, q2⟩ := hf2 (g k) (hg k k1)
    obtain ⟨p, p1, p2⟩ := hg2 (f i) (hf i i1)
    have u := a1 q q1 (by rw [q2]; exact k3)
    have v := b1 p p1 (by rw [p2]; exact i3)
    rw [i2, q2] at u
    rw [k2, p2] at v
    have := hd (f i) (g k) (hf i i1) (hg k k1) (by omega)
    rw [i2, k2, this]
theorem latest_no {row : Nat → List Int} {f : Nat → Nat} {n : Nat} (hr : ∀ j, j < n → (row j).length = 174 ∧ Wf (row j)) (hf : ∀ j, j < n → f j < n)
    (hf2 : ∀ i, i < n → ∃ j, j < n ∧ f j = i) {i : Nat} (hi : i < n) : mergeB (mS row f n) 2 (row i) = false := by
  obtain ⟨a1, a2⟩ := mS_law n (fun j h => hr _ (hf j h)) n (Nat.le_refl _)
  obtain ⟨q, q1, q2⟩ := hf2 i hi
  unfold mergeB
  cases hb : rowB (row i)
  · simp
  · have := a1 q q1 (by rw [q2]; exact hb)
    rw [q2] at this
    simp [machB]
    exact this
theorem turn_lt {n t j : Nat} (h : 0 < n) : (j + t) % n < n := Nat.mod_lt _ h
theorem turn_on {n t : Nat} (i : Nat) (h : i < n) : ∃ j, j < n ∧ (j + t) % n = i := by
  refine ⟨(i + (n - t % n)) % n, Nat.mod_lt _ (by omega), ?_⟩
  have hm := Nat.mod_lt t (show 0 < n by omega)
  rw [Nat.add_mod, Nat.mod_mod, ← Nat.add_mod, Nat.add_assoc]
  rw [← Nat.add_mod_mod, show (n - t % n + t) % n = 0 from ?_]
  · rw [Nat.add_zero]; exact Nat.mod_eq_of_lt h
  · have := Nat.div_add_mod t n
    rw [show n - t % n + t = n + n * (t / n) from by omega, Nat.add_mul_mod_self_left, Nat.mod_self]
/-- which versions were seen -/
def SeenOk (row : Nat → List Int) (j : Nat) (f : Int → Option Value) : Prop := ∀ k, (f k = some (.bool true) ∧ ∃ i, i < j ∧ gi (row i) 0 = k) ∨ (f k = none ∧ ∀ i, i < j → gi (row i) 0 ≠ k)
theorem SeenOk.start (row : Nat → List Int) : SeenOk row 0 (fun _ => none) := fun k => .inr ⟨rfl, fun i h => by omega⟩
theorem SeenOk.step {row : Nat → List Int} {j : Nat} {f : Int → Option Value} (h : SeenOk row j f) {k : Int} (hk : gi (row j) 0 = k) : SeenOk row (j + 1) (fun i => if i = k then some (.bool true) else f i) := by
  intro q
  by_cases hq : q = k
  · refine .inl ⟨if_pos hq, j, by omega, by rw [hk, hq]⟩
  · rcases h q with ⟨a, i, b, c⟩ | ⟨a, b⟩
    · exact .inl ⟨by rw [← a]; exact if_neg hq, i, by omega, c⟩
    · refine .inr ⟨by rw [← a]; exact if_neg hq, fun i hi => ?_⟩
      by_cases hij : i = j
      · rw [hij, hk]; exact fun h => hq h.symm
      · exact b i (by omega)
/-- unlike versions -/
def Uniq (row : Nat → List Int) (n : Nat) : Prop := ∀ i j, i < n → j < n → gi (row i) 0 = gi (row j) 0 → i = j
theorem Uniq.start (row : Nat → List Int) : Uniq row 0 := fun i j h => by omega
theorem Uniq.step {row : Nat → List Int} {n : Nat} (h : Uniq row n) (hn : ∀ i, i < n → gi (row i) 0 ≠ gi (row n) 0) : Uniq row (n + 1) := by
  intro i j hi hj he
  by_cases a : i = n
  · by_cases b : j = n
    · omega
    · subst a; exact absurd he.symm (hn j (by omega))
  · by_cases b : j = n
    · subst b; exact absurd he (hn i (by omega))
    · exact h i j (by omega) (by omega) he
end Go.Proofs.Ythncfjfgjdeajaa
