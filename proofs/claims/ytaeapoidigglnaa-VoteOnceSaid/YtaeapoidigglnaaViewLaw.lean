/-
  The plain law of views: what Next gives back is a view again. No program in sight.
-/
import Derived.Test.YtaeapoidigglnaaView2
namespace Go.Proofs.Ytaeapoidigglnaa
open Go.RowKit
theorem or_tab : ∀ m : Fin 32, ∀ k : Fin 5, bits BinOp.or IntKind.i64 ((m.val : Nat) : Int) (2 ^ k.val) = (if bt ((m.val : Nat) : Int) k.val = true then ((m.val : Nat) : Int) else ((m.val + 2 ^ k.val : Nat) : Int)) := by decide +kernel
theorem an_tab : ∀ m : Fin 32, ∀ k : Fin 5, bits BinOp.andNot IntKind.i64 ((m.val : Nat) : Int) (2 ^ k.val) = (if bt ((m.val : Nat) : Int) k.val = true then ((m.val - 2 ^ k.val : Nat) : Int) else ((m.val : Nat) : Int)) := by decide +kernel
theorem xor_tab : ∀ m : Fin 32, ∀ k : Fin 5, bits BinOp.xor IntKind.i64 ((m.val : Nat) : Int) (2 ^ k.val) = (if bt ((m.val : Nat) : Int) k.val = true then ((m.val - 2 ^ k.val : Nat) : Int) else ((m.val + 2 ^ k.val : Nat) : Int)) := by decide +kernel
theorem add_tab : ∀ m : Fin 32, ∀ k : Fin 5, bt ((m.val : Nat) : Int) k.val = false → (m.val + 2 ^ k.val < 32 ∧ ∀ i : Fin 5, bt ((m.val + 2 ^ k.val : Nat) : Int) i.val = (bt ((m.val : Nat) : Int) i.val || i == k)) := by decide +kernel
theorem sub_tab : ∀ m : Fin 32, ∀ k : Fin 5, bt ((m.val : Nat) : Int) k.val = true → ((∀ d : Fin 5, d ≠ k → bt ((m.val : Nat) : Int) d.val = true → 1 ≤ m.val - 2 ^ k.val) ∧ ∀ i : Fin 5, bt ((m.val - 2 ^ k.val : Nat) : Int) i.val = (bt ((m.val : Nat) : Int) i.val && !(i == k))) := by decide +kernel
/-- a view of which the document says that it may be -/
structure Good (v : List Int) (n : Int) : Prop where
  len : v.length = 7
  ep : gi v 0 = n
  mem : ∃ m : Nat, 1 ≤ m ∧ m < 32 ∧ gi v 1 = m
  heir : ∀ i < 5, gi v (2 + i) ≠ 0 → memB v (gi v (2 + i) - 1) = true ∧ memB v i = false
theorem Good.first : Good firstV 1 := ⟨by decide, by decide, ⟨7, by decide, by decide, by decide⟩, by decide⟩
theorem memB_nat {v : List Int} {i : Nat} (hi : i < 5) : memB v i = bt (gi v 1) i := by
  have h5 : (i : Int) < 5 := by omega
  unfold memB machB
  simp [h5]
theorem gi_out {v : List Int} {i : Nat} (h : v.length ≤ i) : gi v i = 0 := by
  unfold gi; rw [List.getD_eq_getElem?_getD, List.getElem?_eq_none h]; rfl
theorem Good.range {v : List Int} {n : Int} (h : Good v n) (h0 : -9223372036854775808 ≤ n) (h1 : n ≤ 9223372036854775807) : ∀ i, -9223372036854775808 ≤ gi v i ∧ gi v i ≤ 9223372036854775807 := by
  intro i
  obtain ⟨m, hm0, hm1, hm⟩ := h.mem
  by_cases hi : i < 7
  · by_cases h2 : 2 ≤ i
    · have := h.heir (i - 2) (by omega)
      rw [show 2 + (i - 2) = i from by omega] at this
      by_cases hz : gi v i = 0
      · omega
      · have := (this hz).1
        have hm := mach_of (by unfold memB at this; simpa using (Bool.and_eq_true _ _ ▸ this).1)
        omega
    · have : i = 0 ∨ i = 1 := by omega
      rcases this with rfl | rfl
      · rw [h.ep]; omega
      · omega
  · rw [gi_out (by have := h.len; omega)]; omega
theorem gi_set_eq {v : List Int} {i : Nat} {x : Int} (h : i < v.length) : gi (v.set i x) i = x := by simp [gi, List.getElem?_set, h]
theorem gi_set_ne {v : List Int} {i j : Nat} {x : Int} (h : i ≠ j) : gi (v.set i x) j = gi v j := by
  unfold gi; rw [List.getD_eq_getElem?_getD, List.getElem?_set_ne h, ← List.getD_eq_getElem?_getD]
theorem lv_low (v : List Int) (k d j i : Nat) (hi : i < 2 ∨ 2 + j ≤ i) : gi (lv v k d j) i = gi v i := by
  induction j with
  | zero => rfl
  | succ j ih => unfold lv; split; · rw [gi_set_ne (by omega)]; exact ih (by omega)
                 · exact ih (by omega)
theorem lv_at (v : List Int) (k d : Nat) (hv : v.length = 7) (j i : Nat) (hj : j ≤ 5) (hi : i < j) : gi (lv v k d j) (2 + i) = if i = k ∨ gi v (2 + i) = k + 1 then (d : Int) + 1 else gi v (2 + i) := by
  induction j with
  | zero => omega
  | succ j ih =>
    by_cases hij : i = j
    · subst hij
      unfold lv
      split
      · exact gi_set_eq (by rw [lv_len]; omega)
      · exact lv_low _ _ _ _ _ (by omega)
    · have := ih (by omega) (by omega)
      rw [← this]
      conv => lhs; unfold lv
      split
      · exact gi_set_ne (by omega)
      · rfl
theorem list_gi {a b : List Int} (ha : a.length = b.length) (h : ∀ i < a.length, gi a i = gi b i) : a = b := by
  apply List.ext_getElem ha
  intro i h1 h2
  have := h i h1
  unfold gi at this
  rw [List.getD_eq_getElem?_getD, List.getD_eq_getElem?_getD, List.getElem?_eq_getElem h1, List.getElem?_eq_getElem h2] at this
  exact this
theorem okJ_of {v c : List Int} (h : okJ v c = true) : ∃ k d : Nat, k < 5 ∧ d < 5 ∧ gi c 0 = 0 ∧ gi c 1 = k ∧ gi c 2 = d ∧ (heirF v (gi c 1)).2 = false ∧ memB v (gi c 1) = false := by
  simp only [okJ, Bool.and_eq_true, Bool.not_eq_true', beq_iff_eq] at h
  obtain ⟨⟨⟨⟨h1, h2⟩, h3⟩, h4⟩, h5⟩ := h
  obtain ⟨k, hk, e1⟩ := mach_nat h1
  obtain ⟨d, hd, e2⟩ := mach_nat h2
  exact ⟨k, d, hk, hd, h3, e1, e2, h4, h5⟩
theorem okL_of {v c : List Int} (h : okL v c = true) : ∃ k d : Nat, k < 5 ∧ d < 5 ∧ d ≠ k ∧ gi c 0 = 1 ∧ gi c 1 = k ∧ gi c 2 = d ∧ memB v k = true ∧ memB v d = true := by
  simp only [okL, Bool.and_eq_true, Bool.not_eq_true', beq_iff_eq, beq_eq_false_iff_ne] at h
  obtain ⟨⟨⟨⟨⟨h1, h2⟩, h3⟩, h4⟩, h5⟩, h6⟩ := h
  obtain ⟨k, hk, e1⟩ := mach_nat h1
  obtain ⟨d, hd, e2⟩ := mach_nat h2
  rw [e1, e2] at h6; rw [e1] at h4; rw [e2] at h5
  exact ⟨k, d, hk, hd, by omega, h3, e1, e2, h4, h5⟩
/-- one joined: its cells -/
theorem nextJ_cells {v c : List Int} {n : Int} (g : Good v n) {k m : Nat} (hk : k < 5) (hm : m < 32) (em : gi v 1 = m) (e1 : gi c 1 = k) (hb : memB v k = false) :
    (nextJ v c).length = 7 ∧ gi (nextJ v c) 0 = n + 1 ∧ gi (nextJ v c) 1 = ((m + 2 ^ k : Nat) : Int) ∧ ∀ i, gi (nextJ v c) (2 + i) = gi v (2 + i) := by
  have hl := g.len
  rw [memB_nat hk, em] at hb
  have ht := or_tab ⟨m, hm⟩ ⟨k, hk⟩
  simp only [hb] at ht
  refine ⟨by unfold nextJ; simpa using hl, by unfold nextJ; rw [gi_set_eq (by simp; omega), g.ep], ?_, ?_⟩
  · unfold nextJ
    rw [gi_set_ne (by omega), gi_set_eq (by omega), e1, em]
    simpa using ht
  · intro i
    unfold nextJ
    rw [gi_set_ne (by omega), gi_set_ne (by omega)]
theorem nextL_cells {v c : List Int} {n : Int} (g : Good v n) {k d m : Nat} (hk : k < 5) (hm : m < 32) (em : gi v 1 = m) (e1 : gi c 1 = k) (e2 : gi c 2 = d) (hb : memB v k = true) :
    (nextL v c).length = 7 ∧ gi (nextL v c) 0 = n + 1 ∧ gi (nextL v c) 1 = ((m - 2 ^ k : Nat) : Int) ∧ ∀ i < 5, gi (nextL v c) (2 + i) = if i = k ∨ gi v (2 + i) = k + 1 then (d : Int) + 1 else gi v (2 + i) := by
  have hl := g.len
  rw [memB_nat hk, em] at hb
  have ht := an_tab ⟨m, hm⟩ ⟨k, hk⟩
  simp only [hb] at ht
  refine ⟨by unfold nextL; simpa [lv_len] using hl, by unfold nextL; rw [gi_set_eq (by simp [lv_len]; omega), g.ep], ?_, ?_⟩
  · unfold nextL
    rw [gi_set_ne (by omega), lv_low _ _ _ _ _ (by omega), gi_set_eq (by omega), e1, em]
    simpa using ht
  · intro i hi
    unfold nextL
    rw [gi_set_ne (by omega), lv_at _ _ _ (by simpa using hl) 5 i (by omega) hi, gi_set_ne (by omega), e1, e2]
    simp
theorem mem_of {v : List Int} {x : Int} (h : memB v x = true) : ∃ k : Nat, k < 5 ∧ x = k ∧ bt (gi v 1) k = true := by
  have hm : machB x = true := by unfold memB at h; simp only [Bool.and_eq_true] at h; exact h.1
  obtain ⟨k, hk, rfl⟩ := mach_nat hm
  exact ⟨k, hk, rfl, by rw [memB_nat hk] at h; exact h⟩
theorem Good.join {v c : List Int} {n : Int} (g : Good v n) (h : okJ v c = true) : Good (nextJ v c) (n + 1) := by
  obtain ⟨k, d, hk, hd, e0, e1, e2, hh, hb⟩ := okJ_of h
  obtain ⟨m, hm0, hm1, em⟩ := g.mem
  rw [e1] at hb hh
  obtain ⟨hl, h0, h1, h2⟩ := nextJ_cells g hk hm1 em e1 hb
  have hb' := hb
  rw [memB_nat hk, em] at hb'
  obtain ⟨ht, ht2⟩ := add_tab ⟨m, hm1⟩ ⟨k, hk⟩ hb'
  simp only at ht
  have hp := Nat.two_pow_pos k
  generalize hq : 2 ^ k = q at *
  refine ⟨hl, h0, ⟨m + q, by omega, ht, h1⟩, ?_⟩
  intro i hi hz
  rw [h2] at hz ⊢
  obtain ⟨a, b⟩ := g.heir i hi hz
  obtain ⟨x, hx, ex, bx⟩ := mem_of a
  rw [memB_nat hi, em] at b
  have hki : i ≠ k := by
    rintro rfl
    have h5 : (i : Int) < 5 := by omega
    have hmk : machB (i : Int) = true := by simp [machB, h5]
    have : 1 ≤ gi v (2 + i) := by omega
    rw [heirF, if_pos ⟨hmk, by simpa using this⟩] at hh
    exact Bool.noConfusion hh
  rw [ex, memB_nat hx, memB_nat hi, h1]
  have q1 := ht2 ⟨x, hx⟩
  have q2 := ht2 ⟨i, hi⟩
  simp only at q1 q2
  rw [q1, q2, b, ← em, bx]
  simp [hki]
theorem Good.leave {v c : List Int} {n : Int} (g : Good v n) (h : okL v c = true) : Good (nextL v c) (n + 1) := by
  obtain ⟨k, d, hk, hd, hdk, e0, e1, e2, hb, hbd⟩ := okL_of h
  obtain ⟨m, hm0, hm1, em⟩ := g.mem
  obtain ⟨hl, h0, h1, h2⟩ := nextL_cells g hk hm1 em e1 e2 hb
  rw [memB_nat hk, em] at hb
  rw [memB_nat hd, em] at hbd
  obtain ⟨ht, ht2⟩ := sub_tab ⟨m, hm1⟩ ⟨k, hk⟩ hb
  have hge := ht ⟨d, hd⟩ (by simpa using hdk) hbd
  simp only at hge
  refine ⟨hl, h0, ⟨m - 2 ^ k, hge, Nat.lt_of_le_of_lt (Nat.sub_le _ _) hm1, h1⟩, ?_⟩
  intro i hi hz
  rw [h2 i hi] at hz ⊢
  have q2 := ht2 ⟨i, hi⟩
  simp only at q2
  by_cases hc : i = k ∨ gi v (2 + i) = k + 1
  · rw [if_pos hc] at hz ⊢
    have q1 := ht2 ⟨d, hd⟩
    simp only at q1
    rw [show (d : Int) + 1 - 1 = d from by omega, memB_nat hd, memB_nat hi, h1, q1, q2, hbd]
    refine ⟨by simpa using hdk, ?_⟩
    rcases hc with rfl | hc
    · simp
    · have := (g.heir i hi (by omega)).2
      rw [memB_nat hi, em] at this
      rw [this]; rfl
  · rw [if_neg hc] at hz ⊢
    obtain ⟨a, b⟩ := g.heir i hi hz
    obtain ⟨x, hx, ex, bx⟩ := mem_of a
    rw [memB_nat hi, em] at b
    have q1 := ht2 ⟨x, hx⟩
    simp only at q1
    rw [ex, memB_nat hx, memB_nat hi, h1, q1, q2, b, ← em, bx]
    refine ⟨?_, rfl⟩
    have : x ≠ k := by rintro rfl; exact hc (Or.inr (by omega))
    simpa using this
theorem Good.next {v : List Int} {n : Int} (g : Good v n) (c : List Int) : ((nextF v c).2 = 0 ∧ Good (nextF v c).1 (n + 1)) ∨ nextF v c = (nau 7, 5) := by
  unfold nextF
  split
  · left; exact ⟨rfl, g.join (by assumption)⟩
  · split
    · left; exact ⟨rfl, g.leave (by assumption)⟩
    · right; rfl
end Go.Proofs.Ytaeapoidigglnaa
