/-
  Plain law: each change takes one step out of seven; who left never joins. No program in sight.
-/
import Derived.Test.YtaeapoidigglnaaView4
namespace Go.Proofs.Ytaeapoidigglnaa
open Go.RowKit
/-- how many steps a machine has before it: joining, leaving -/
def st1 (v : List Int) (i : Nat) : Int := if gi v (2 + i) = 0 then (if memB v i = true then 1 else 2) else 0
def stp (v : List Int) : Int := st1 v 0 + st1 v 1 + st1 v 2 + st1 v 3 + st1 v 4
theorem st1_nonneg (v : List Int) (i : Nat) : 0 ≤ st1 v i := by
  unfold st1
  split
  · split <;> omega
  · omega
theorem stp_nonneg (v : List Int) : 0 ≤ stp v := by
  unfold stp
  have a := st1_nonneg v 0; have b := st1_nonneg v 1; have c := st1_nonneg v 2; have d := st1_nonneg v 3; have e := st1_nonneg v 4
  omega
theorem stp_first : stp firstV = 7 := by decide +kernel
theorem stp_step {v v' : List Int} {k : Nat} (hk : k < 5) (h1 : st1 v' k = st1 v k - 1) (h2 : ∀ i, i < 5 → i ≠ k → st1 v' i = st1 v i) : stp v' = stp v - 1 := by
  unfold stp
  have hc : k = 0 ∨ k = 1 ∨ k = 2 ∨ k = 3 ∨ k = 4 := by omega
  rcases hc with rfl | rfl | rfl | rfl | rfl
  · rw [h1, h2 1 (by omega) (by omega), h2 2 (by omega) (by omega), h2 3 (by omega) (by omega), h2 4 (by omega) (by omega)]; omega
  · rw [h1, h2 0 (by omega) (by omega), h2 2 (by omega) (by omega), h2 3 (by omega) (by omega), h2 4 (by omega) (by omega)]; omega
  · rw [h1, h2 0 (by omega) (by omega), h2 1 (by omega) (by omega), h2 3 (by omega) (by omega), h2 4 (by omega) (by omega)]; omega
  · rw [h1, h2 0 (by omega) (by omega), h2 1 (by omega) (by omega), h2 2 (by omega) (by omega), h2 4 (by omega) (by omega)]; omega
  · rw [h1, h2 0 (by omega) (by omega), h2 1 (by omega) (by omega), h2 2 (by omega) (by omega), h2 3 (by omega) (by omega)]; omega
theorem join_heir0 {v c : List Int} {n : Int} (g : Good v n) (h : okJ v c = true) : ∃ k : Nat, k < 5 ∧ gi c 0 = 0 ∧ gi c 1 = k ∧ gi v (2 + k) = 0 ∧ memB v k = false := by
  obtain ⟨k, d, hk, hd, e0, e1, e2, hh, hb⟩ := okJ_of h
  rw [e1] at hh hb
  refine ⟨k, hk, e0, e1, ?_, hb⟩
  have hmk : machB (k : Int) = true := by have : (k : Int) < 5 := by omega
                                          simp [machB, this]
  by_cases h1 : 1 ≤ gi v (2 + k)
  · rw [heirF, if_pos ⟨hmk, by simpa using h1⟩] at hh; cases hh
  · have := g.heir k hk
    by_cases h0 : gi v (2 + k) = 0
    · exact h0
    · obtain ⟨x, hx, ex, _⟩ := mem_of (this h0).1; omega
theorem stp_join {v c : List Int} {n : Int} (g : Good v n) (h : okJ v c = true) : stp (nextJ v c) = stp v - 1 := by
  obtain ⟨k, hk, e0, e1, hz, hb⟩ := join_heir0 g h
  obtain ⟨m, hm0, hm1, em⟩ := g.mem
  obtain ⟨hl, h0, h1, h2⟩ := nextJ_cells g hk hm1 em e1 hb
  have hb' := hb
  rw [memB_nat hk, em] at hb'
  obtain ⟨ht, ht2⟩ := add_tab ⟨m, hm1⟩ ⟨k, hk⟩ hb'
  simp only at ht ht2
  have hmem : ∀ i : Nat, i < 5 → memB (nextJ v c) i = (memB v i || decide (i = k)) := by
    intro i hi
    have q := ht2 ⟨i, hi⟩
    simp only at q
    rw [memB_nat hi, memB_nat hi, h1, em, q]
    congr 1
    rw [Bool.eq_iff_iff]; simp
  refine stp_step hk ?_ fun i hi hik => ?_
  · unfold st1
    rw [h2, if_pos hz, if_pos hz, hmem k hk, hb]
    simp
  · unfold st1
    rw [h2, hmem i hi]
    simp [hik]
theorem stp_leave {v c : List Int} {n : Int} (g : Good v n) (h : okL v c = true) : stp (nextL v c) = stp v - 1 := by
  obtain ⟨k, d, hk, hd, hdk, e0, e1, e2, hb, hbd⟩ := okL_of h
  obtain ⟨m, hm0, hm1, em⟩ := g.mem
  obtain ⟨hl, h0, h1, h2⟩ := nextL_cells g hk hm1 em e1 e2 hb
  have hb' := hb
  rw [memB_nat hk, em] at hb'
  obtain ⟨_, ht2⟩ := sub_tab ⟨m, hm1⟩ ⟨k, hk⟩ hb'
  simp only at ht2
  have hmem : ∀ i : Nat, i < 5 → i ≠ k → memB (nextL v c) i = memB v i := by
    intro i hi hik
    have q := ht2 ⟨i, hi⟩
    simp only at q
    rw [memB_nat hi, memB_nat hi, h1, em, q]
    simp [hik]
  have hz : gi v (2 + k) = 0 := by
    by_cases hz : gi v (2 + k) = 0
    · exact hz
    · have := (g.heir k hk hz).2
      rw [hb] at this; cases this
  have hv : gi (nextL v c) (2 + k) = (d : Int) + 1 := by rw [h2 k hk]; exact if_pos (Or.inl rfl)
  refine stp_step hk ?_ fun i hi hik => ?_
  · unfold st1
    rw [hv, if_neg (by omega), if_pos hz, hb]
    simp
  · have hmi := hmem i hi hik
    by_cases hc : gi v (2 + i) = k + 1
    · have hvi : gi (nextL v c) (2 + i) = (d : Int) + 1 := by rw [h2 i hi]; exact if_pos (Or.inr hc)
      unfold st1
      rw [hvi, if_neg (by omega), if_neg (by omega)]
    · have hvi : gi (nextL v c) (2 + i) = gi v (2 + i) := by rw [h2 i hi]; exact if_neg (fun h => h.elim hik hc)
      unfold st1
      rw [hvi, hmi]
/-- those of whom the map says that they left have heirs -/
def GoneOk (v : List Int) (f : Int → Option Value) : Prop := ∀ k u, f k = some u → u = .bool true ∧ ∃ i : Nat, k = i ∧ i < 5 ∧ gi v (2 + i) ≠ 0
theorem GoneOk.first : GoneOk firstV (fun _ => none) := fun k u h => by cases h
theorem GoneOk.join {v c : List Int} {n : Int} {f : Int → Option Value} (g : Good v n) (h : okJ v c = true) (hf : GoneOk v f) : GoneOk (nextJ v c) f ∧ f (gi c 1) = none := by
  obtain ⟨k, hk, e0, e1, hz, hb⟩ := join_heir0 g h
  obtain ⟨m, hm0, hm1, em⟩ := g.mem
  obtain ⟨hl, h0, h1, h2⟩ := nextJ_cells g hk hm1 em e1 hb
  refine ⟨fun j u hj => ?_, ?_⟩
  · obtain ⟨a, i, b, c, d⟩ := hf j u hj
    exact ⟨a, i, b, c, by rw [h2]; exact d⟩
  · cases hfk : f (gi c 1) with
    | none => rfl
    | some u =>
      obtain ⟨_, i, b, _, d⟩ := hf _ u hfk
      rw [e1] at b
      have : i = k := by omega
      rw [this] at d
      exact absurd hz d
theorem GoneOk.leave {v c : List Int} {n : Int} {f : Int → Option Value} (g : Good v n) (h : okL v c = true) (hf : GoneOk v f) : GoneOk (nextL v c) (fun i => if i = gi c 1 then some (.bool true) else f i) := by
  obtain ⟨k, d, hk, hd, hdk, e0, e1, e2, hb, hbd⟩ := okL_of h
  obtain ⟨m, hm0, hm1, em⟩ := g.mem
  obtain ⟨hl, h0, h1, h2⟩ := nextL_cells g hk hm1 em e1 e2 hb
  intro j u hj
  replace hj : (if j = gi c 1 then some (Value.bool true) else f j) = some u := hj
  by_cases hjk : j = gi c 1
  · rw [if_pos hjk] at hj
    cases hj
    have hv : gi (nextL v c) (2 + k) = (d : Int) + 1 := by rw [h2 k hk]; exact if_pos (Or.inl rfl)
    exact ⟨rfl, k, by rw [hjk, e1], hk, by omega⟩
  · rw [if_neg hjk] at hj
    obtain ⟨a, i, b, c, e⟩ := hf j u hj
    refine ⟨a, i, b, c, ?_⟩
    rw [h2 i c]
    split
    · omega
    · exact e
theorem set_some {v : List Int} {n : Int} (g : Good v n) : 1 ≤ (setTo (gi v 1) 5).length := by
  obtain ⟨m, hm0, hm1, em⟩ := g.mem
  rw [em]
  have : ∀ m : Fin 32, 1 ≤ m.val → 1 ≤ (setTo ((m.val : Nat) : Int) 5).length := by decide +kernel
  exact this ⟨m, hm1⟩ hm0
end Go.Proofs.Ytaeapoidigglnaa
