/-
  Plain law: what is given moves rights, and changes no value. No program in sight.
-/
import Derived.Test.YthncfjfgjdeajaaBookLaw
namespace Go.Proofs.Ythncfjfgjdeajaa
open Go.RowKit
/-- cells, of which f gave so much more to t -/
theorem rIn_more {cs cs' : List Int} {f t : Nat} {n : Int} (hft : f ≠ t) (hf : f < 5) (ht : t < 5)
    (h : ∀ o i, o < 5 → i < 7 → gi cs' (o * 7 + i) = gi cs (o * 7 + i) + (if o = f ∧ i = 2 + t then n else 0)) (o : Nat) (ho : o < 5) :
    ∀ k, k ≤ 5 → rIn cs' o k = rIn cs o k + (if o = t ∧ f < k then n else 0) - (if o = f ∧ t < k then n else 0)
  | 0, _ => by simp [rIn]
  | k + 1, hk => by
    have ih := rIn_more hft hf ht h o ho k (by omega)
    have h1 := h k (2 + o) (by omega) (by omega)
    have h2 := h o (2 + k) (by omega) (by omega)
    rw [← Nat.add_assoc] at h1 h2
    unfold rIn
    rw [ih, h1, h2]
    repeat' split
    all_goals omega
theorem term_more {cs cs' : List Int} {f t : Nat} {n : Int} (hft : f ≠ t) (hf : f < 5) (ht : t < 5)
    (h : ∀ o i, o < 5 → i < 7 → gi cs' (o * 7 + i) = gi cs (o * 7 + i) + (if o = f ∧ i = 2 + t then n else 0)) {o : Nat} (ho : o < 5) :
    term cs' o = term cs o + (if o = t then n else 0) - (if o = f then n else 0) := by
  have h0 := h o 0 ho (by omega)
  have h1 := h o 1 ho (by omega)
  rw [if_neg (by omega)] at h0 h1
  have h2 := rIn_more hft hf ht h o ho 5 (Nat.le_refl _)
  rw [show (if o = t ∧ f < 5 then n else 0) = (if o = t then n else 0) from by simp [hf], show (if o = f ∧ t < 5 then n else 0) = (if o = f then n else 0) from by simp [ht]] at h2
  unfold term
  rw [h2, h1]
  rw [Nat.add_zero] at h0
  rw [h0]
  omega
theorem rS_more {cs cs' x x' : List Int} {who : Int} {d : Int} {p : Nat} (ho : ∀ i, i < 5 → ownP x' who i = ownP x who i)
    (ht : ∀ i, i < 5 → ownP x who i = true → term cs' i = term cs i + (if i = p then d else 0)) (hp : p < 5) (hpo : ownP x who p = true) :
    rS cs' x' who 5 = rS cs x who 5 + d := by
  have go : ∀ j, j ≤ 5 → rS cs' x' who j = rS cs x who j + (if p < j then d else 0) := by
    intro j
    induction j with
    | zero => intro _; simp [rS]
    | succ j ih =>
      intro hj
      unfold rS
      rw [ih (by omega), ho j (by omega)]
      by_cases h : ownP x who j = true
      · rw [if_pos h, if_pos h, ht j (by omega) h]
        by_cases a : j = p
        · rw [if_pos a, if_neg (by omega), if_pos (by omega)]; omega
        · rw [if_neg a]
          by_cases b : p < j
          · rw [if_pos b, if_pos (by omega)]; omega
          · rw [if_neg b, if_neg (by omega)]; omega
      · rw [if_neg h, if_neg h]
        have a : j ≠ p := by rintro rfl; exact h hpo
        by_cases b : p < j
        · rw [if_pos b, if_pos (by omega)]; omega
        · rw [if_neg b, if_neg (by omega)]
  rw [go 5 (Nat.le_refl _), if_pos (by omega)]
/-- whose row none came into: its cell is its own row's -/
theorem cTo_own {m : List Int} {f : Nat} {key : Nat} (hk : key < 4) (hf : f < 5) (h : ∀ w, w < 5 → w ≠ f → gi (sub m (w * 174) 174) (29 + f) ≤ 0) (h0 : 0 ≤ gi (sub m (f * 174) 174) 0) :
    bCell m f key = sub (sub m (f * 174) 174) (1 + key * 7) 7 := by
  have mf : machB (f : Int) = true := by have : (f : Int) < 5 := by omega
                                         simp [machB, this]
  have go : ∀ j, j ≤ 5 → cTo m f key j = if f < j then (sub (sub m (f * 174) 174) (1 + key * 7) 7, gi (sub m (f * 174) 174) 0) else (nau 7, -1) := by
    intro j
    induction j with
    | zero => intro _; simp [cTo]
    | succ j ih =>
      intro hj
      have mj : machB (j : Int) = true := by have : (j : Int) < 5 := by omega
                                             simp [machB, this]
      have kk : (0 : Int) ≤ key ∧ (key : Int) < 4 := by omega
      by_cases a : j = f
      · subst a
        have e : cellF (sub m (j * 174) 174) j j key = (sub (sub m (j * 174) 174) (1 + key * 7) 7, gi (sub m (j * 174) 174) 0) := by
          unfold cellF
          rw [if_pos ⟨mj, mj, kk⟩, if_pos rfl, Int.toNat_natCast]
        have ihj : cTo m j key j = (nau 7, -1) := by rw [ih (by omega)]; exact if_neg (by omega)
        unfold cTo
        rw [ihj, e, if_pos (show (-1 : Int) < gi (sub m (j * 174) 174) 0 by omega)]
        exact (if_pos (by omega)).symm
      · have e : cellF (sub m (j * 174) 174) j f key = (nau 7, -1) := by
          unfold cellF
          rw [if_pos ⟨mj, mf, kk⟩, if_neg (by omega), Int.toNat_natCast, if_neg (by have := h j (by omega) a; omega)]
        by_cases b : f < j
        · have ihj : cTo m f key j = (sub (sub m (f * 174) 174) (1 + key * 7) 7, gi (sub m (f * 174) 174) 0) := by rw [ih (by omega)]; exact if_pos b
          unfold cTo
          rw [ihj, e, if_neg (show ¬ gi (sub m (f * 174) 174) 0 < (-1 : Int) by omega)]
          exact (if_pos (by omega)).symm
        · have ihj : cTo m f key j = (nau 7, -1) := by rw [ih (by omega)]; exact if_neg b
          unfold cTo
          rw [ihj, e, if_neg (show ¬ (-1 : Int) < (-1 : Int) by omega)]
          exact (if_neg (by omega)).symm
  unfold bCell
  rw [go 5 (Nat.le_refl _), if_pos (by omega)]
theorem bCell_other {m m' : List Int} {f o : Nat} {key : Int} (_ : o ≠ f) (h : ∀ w, w < 5 → w ≠ f → sub m' (w * 174) 174 = sub m (w * 174) 174)
    (h2 : cellF (sub m' (f * 174) 174) f o key = cellF (sub m (f * 174) 174) f o key) : bCell m' o key = bCell m o key := by
  have go : ∀ j, j ≤ 5 → cTo m' o key j = cTo m o key j := by
    intro j
    induction j with
    | zero => intro _; rfl
    | succ j ih =>
      intro hj
      have e : cellF (sub m' (j * 174) 174) j o key = cellF (sub m (j * 174) 174) j o key := by
        by_cases a : j = f
        · rw [a]; exact h2
        · rw [h j (by omega) a]
      unfold cTo
      rw [ih (by omega), e]
  unfold bCell
  rw [go 5 (Nat.le_refl _)]
/-- giving changes no value: what one has less the other has more -/
theorem moves_law {m : List Int} (hk : Bk m) {f t key : Nat} {n : Int} (hf : f < 5) (ht : t < 5) (hft : f ≠ t) (hkey : key < 4) (hn : 1 ≤ n)
    (hv : gi (sub m (f * 174) 174) 0 < 9223372036854775807)
    (h1 : ∀ w, w < 5 → gi (sub m (w * 174) 174) (29 + f) ≤ 0) (h2 : ∀ w, w < 5 → gi (sub m (w * 174) 174) (29 + t) ≤ 0)
    (hg : (giveF (sub m (f * 174) 174) key n t).2 = 0) :
    Bk (mergeM m f (giveF (sub m (f * 174) 174) key n t).1) ∧ mergeB m f (giveF (sub m (f * 174) 174) key n t).1 = true ∧
    vTo (mergeM m f (giveF (sub m (f * 174) 174) key n t).1) key 5 = vTo m key 5 ∧
    rightsF (mergeM m f (giveF (sub m (f * 174) 174) key n t).1) f key = rightsF m f key - n ∧
    rightsF (mergeM m f (giveF (sub m (f * 174) 174) key n t).1) t key = rightsF m t key + n := by
  have hml := hk.len
  obtain ⟨hr, hw⟩ := hk.row f hf
  obtain ⟨x, hx⟩ : ∃ x, x = sub m (f * 174) 174 := ⟨_, rfl⟩
  have hxl : x.length = 174 := by rw [hx, sub_len]; omega
  have mf : machB (f : Int) = true := by have : (f : Int) < 5 := by omega
                                         simp [machB, this]
  have mt : machB (t : Int) = true := by have : (t : Int) < 5 := by omega
                                         simp [machB, this]
  rw [← hx] at hr hw hv hg ⊢
  have hx0 : 0 ≤ gi x 0 := (rowB_of hr).1
  have hge : ∃ hs : askedB key n = true, giveF x key n t = (moreF x (1 + key * 7 + 2 + t) n, 0) ∧ (sub x (1 + key * 7 + 2) 5).sum ≤ 1099511627776 - n := by
    unfold giveF at hg ⊢
    by_cases ha : machB t = true ∧ askedB key n = true
    · rw [if_pos ha] at hg ⊢
      rw [Int.toNat_natCast, Int.toNat_natCast] at *
      by_cases hq : 1099511627776 - n < (sub x (1 + key * 7 + 2) 5).sum
      · rw [if_pos hq] at hg; cases hg
      · rw [if_neg hq]; exact ⟨ha.2, rfl, by omega⟩
    · rw [if_neg ha] at hg; cases hg
  obtain ⟨hask, hge, hsum⟩ := hge
  rw [hge]
  obtain ⟨z, hz⟩ : ∃ z, z = moreF x (1 + key * 7 + 2 + t) n := ⟨_, rfl⟩
  have hzr : rowB z = true := by
    have := more_right x key (2 + t) n hxl hr hkey (by omega) hn (by unfold cntF; rw [if_neg (by omega)]; exact hsum)
    rw [← Nat.add_assoc] at this
    rw [hz]; exact this
  have hzl : z.length = 174 := by rw [hz]; simp [moreF, hxl]
  have hz0 : gi z 0 = gi x 0 + 1 := by rw [hz]; exact more_0 _ _ _ (by omega)
  have hzi : ∀ i, i ≠ 0 → gi z i = gi x i + (if i = 1 + key * 7 + 2 + t then n else 0) := by
    intro i hi
    rw [hz]
    unfold moreF
    rw [gi_set, if_neg (fun h => hi h.1.symm), gi_set]
    by_cases a : i = 1 + key * 7 + 2 + t
    · subst a; rw [if_pos ⟨rfl, by omega⟩, if_pos rfl]
    · rw [if_neg (fun h => a h.1.symm), if_neg a, Int.add_zero]
  rw [← hz]
  show Bk (mergeM m f z) ∧ mergeB m f z = true ∧ _
  have hxm : gi m (f * 174) = gi x 0 := by rw [hx, gi_sub _ _ _ _ (by omega), Nat.add_zero]
  have hmb : mergeB m f z = true := by
    unfold mergeB
    rw [mf, hzr, Int.toNat_natCast, hxm, hz0]
    simp; omega
  suffices hall : Bk (mergeM m f z) ∧ vTo (mergeM m f z) key 5 = vTo m key 5 ∧ rightsF (mergeM m f z) f key = rightsF m f key - n ∧ rightsF (mergeM m f z) t key = rightsF m t key + n from ⟨hall.1, hmb, hall.2⟩
  show Bk (mergeM m f z) ∧ vTo (mergeM m f z) key 5 = _ ∧ rightsF (mergeM m f z) f key = _ ∧ rightsF (mergeM m f z) t key = _
  obtain ⟨m', hm'⟩ : ∃ m', m' = mergeM m f z := ⟨_, rfl⟩
  have hk' : Bk m' := by
    refine hm' ▸ hk.merge f z hzl fun i => ?_
    by_cases hi : i = 0
    · subst hi; rw [hz0]; omega
    · rw [hzi i hi]
      split
      · have := hw i
        rename_i he
        have hb : gi x i ≤ 1099511627776 - n := by
          have hs : gi x i ∈ sub x (1 + key * 7 + 2) 5 := by
            have := gi_mem (sub x (1 + key * 7 + 2) 5) t (by rw [sub_len]; omega)
            rwa [gi_sub _ _ _ _ ht, ← he] at this
          have hnn : ∀ g ∈ sub x (1 + key * 7 + 2) 5, 0 ≤ g := by
            have hc := (allB_iff _ 4).1 (rowB_of hr).2.1 key hkey
            replace hc : cellB (cellAt (cellsOf x) key) = true := hc
            rw [cellAt_eq _ _ hkey] at hc
            have h3 := ((cellB_iff _).1 hc).2.2.1
            have e : sub (sub x (1 + key * 7) 7) 2 5 = sub x (1 + key * 7 + 2) 5 := by
              unfold sub; rw [List.drop_take, List.drop_drop, List.take_take]; congr 1
            rw [e] at h3
            exact fun g hg => (h3 g hg).1
          have := le_sum _ hnn _ hs
          omega
        omega
      · have := hw i; omega
  have hsf : sub m' (f * 174) 174 = z := by
    rw [hm']; unfold mergeM; rw [if_pos hmb, Int.toNat_natCast]
    have := sub_spl_same m z (f * 174) (by omega)
    rwa [hzl] at this
  have hso : ∀ w, w < 5 → w ≠ f → sub m' (w * 174) 174 = sub m (w * 174) 174 := by
    intro w hw5 hwf
    rw [hm']; unfold mergeM; rw [if_pos hmb, Int.toNat_natCast]
    exact sub_spl_other _ _ _ _ _ (by omega) (by omega)
  rw [← hm']
  have cf : bCell m f key = sub x (1 + key * 7) 7 := by
    rw [hx]; exact cTo_own hkey hf (fun w a _ => h1 w a) (by rw [← hx]; exact hx0)
  have hzh : ∀ i, i < 5 → gi z (29 + i) = gi x (29 + i) := by
    intro i hi
    rw [hzi _ (by omega), if_neg (by omega), Int.add_zero]
  have cf' : bCell m' f key = sub z (1 + key * 7) 7 := by
    have := cTo_own (m := m') hkey hf (fun w a b => by rw [hso w a b]; exact h1 w a) (by rw [hsf]; omega)
    rwa [hsf] at this
  have co : ∀ o : Nat, o < 5 → o ≠ f → bCell m' o key = bCell m o key := by
    intro o ho hof
    refine bCell_other hof hso ?_
    rw [hsf, ← hx]
    unfold cellF
    split
    · rw [if_neg (show ¬ ((o : Int) = (f : Int)) by omega), if_neg (show ¬ ((o : Int) = (f : Int)) by omega), Int.toNat_natCast, Int.toNat_natCast, hzh o ho]
      rw [hz]; unfold moreF
      rw [sub_set_other _ _ _ _ _ (by omega), sub_set_other _ _ _ _ _ (by omega)]
    · rfl
  have hcs : ∀ o i, o < 5 → i < 7 → gi (allC m' key 5) (o * 7 + i) = gi (allC m key 5) (o * 7 + i) + (if o = f ∧ i = 2 + t then n else 0) := by
    intro o i ho hi
    rw [allC_at hk' key 5 (Nat.le_refl _) o i ho hi, allC_at hk key 5 (Nat.le_refl _) o i ho hi]
    by_cases a : o = f
    · subst a
      rw [cf, cf', gi_sub _ _ _ _ hi, gi_sub _ _ _ _ hi, hzi _ (by omega)]
      by_cases b : i = 2 + t
      · rw [if_pos (by omega), if_pos ⟨rfl, b⟩]
      · rw [if_neg (by omega), if_neg (fun h => b h.2)]
    · rw [co o ho a, if_neg (fun h => a h.1), Int.add_zero]
  have hterm : ∀ o, o < 5 → term (allC m' key 5) o = term (allC m key 5) o + (if o = t then n else 0) - (if o = f then n else 0) := fun o ho => term_more hft hf ht hcs ho
  refine ⟨hk', ?_, ?_, ?_⟩
  · have e : ∀ o i : Nat, o < 5 → i < 2 → gi (bCell m' o key) i = gi (bCell m o key) i := by
      intro o i ho hi
      have := hcs o i ho (by omega)
      rw [if_neg (by omega), allC_at hk' key 5 (Nat.le_refl _) o i ho (by omega), allC_at hk key 5 (Nat.le_refl _) o i ho (by omega), Int.add_zero] at this
      exact this
    have go : ∀ j, j ≤ 5 → vTo m' key j = vTo m key j := by
      intro j
      induction j with
      | zero => intro _; rfl
      | succ j ih =>
        intro hj
        unfold vTo
        rw [ih (by omega), e j 0 (by omega) (by omega), e j 1 (by omega) (by omega)]
    exact go 5 (Nat.le_refl _)
  · rw [rights_eq hf, rights_eq hf, hsf, ← hx]
    have hot : ownP x f t = false := by
      have := h2 f hf
      rw [← hx] at this
      unfold ownP; simp; omega
    rw [Int.sub_eq_add_neg]
    refine rS_more (p := f) (fun i hi => by unfold ownP; rw [hzh i hi]) (fun i hi ho => ?_) hf (by unfold ownP; simp)
    have : i ≠ t := by rintro rfl; rw [hot] at ho; cases ho
    rw [hterm i hi, if_neg this]
    by_cases a : i = f
    · rw [if_pos a, if_pos a]; omega
    · rw [if_neg a, if_neg a]; omega
  · rw [rights_eq ht, rights_eq ht, hso t ht (Ne.symm hft)]
    have hof : ownP (sub m (t * 174) 174) t f = false := by
      have := h1 t ht
      unfold ownP; simp; omega
    refine rS_more (p := t) (fun i hi => rfl) (fun i hi ho => ?_) ht (by unfold ownP; simp)
    have : i ≠ f := by rintro rfl; rw [hof] at ho; cases ho
    rw [hterm i hi, if_neg this]
    omega
end Go.Proofs.Ythncfjfgjdeajaa
