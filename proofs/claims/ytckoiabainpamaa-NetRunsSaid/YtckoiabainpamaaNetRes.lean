/-
  A net as one resource: its ways are boxes. No condition.
-/
import Derived.Test.YtckoiabainpamaaFam
namespace Go.Proofs.Ytckoiabainpamaa
open Go.RowKit
abbrev QE := Option Addr × Nat × List UInt8
/-- the ways: 5 from + to, from unlike to -/
def ways20 : List Nat := [1, 2, 3, 4, 5, 7, 8, 9, 10, 11, 13, 14, 15, 16, 17, 19, 20, 21, 22, 23]
theorem ways_nodup : ways20.Nodup := by decide
theorem ways_mem {i : Nat} (h : i < 25) (h6 : i % 6 ≠ 0) : i ∈ ways20 := by
  have : ∀ i < 25, i % 6 ≠ 0 → i ∈ ways20 := by decide
  exact this i h h6
theorem ways_of {i : Nat} (h : i ∈ ways20) : i < 25 ∧ i % 6 ≠ 0 := by
  have : ∀ i ∈ ways20, i < 25 ∧ i % 6 ≠ 0 := by decide
  exact this i h
def waysTo (n : Nat) : List Nat := ways20.filter (· < n)
theorem waysTo_0 : waysTo 0 = [] := by decide
theorem waysTo_25 : waysTo 25 = ways20 := by decide
theorem waysTo_more {j : Nat} (h : j < 25) (h6 : j % 6 ≠ 0) : waysTo (j + 1) = waysTo j ++ [j] := by
  have : ∀ j < 25, j % 6 ≠ 0 → waysTo (j + 1) = waysTo j ++ [j] := by decide
  exact this j h h6
theorem waysTo_same {j : Nat} (h : j < 25) (h6 : j % 6 = 0) : waysTo (j + 1) = waysTo j := by
  have : ∀ j < 25, j % 6 = 0 → waysTo (j + 1) = waysTo j := by decide
  exact this j h h6
theorem waysTo_lt {j i : Nat} (h : i ∈ waysTo j) : i < j := by
  simpa using (List.mem_filter.1 h).2
def cellTo (pb : Nat → Nat) (n i : Nat) : Value := if i % 6 = 0 ∨ n ≤ i then .pointer none else .pointer (some ⟨pb i, 0, none⟩)
def cellsTo (pb : Nat → Nat) (n : Nat) : List Value := (List.range 25).map (cellTo pb n)
theorem cellsTo_len (pb : Nat → Nat) (n : Nat) : (cellsTo pb n).length = 25 := by simp [cellsTo]
theorem cellsTo_get (pb : Nat → Nat) (n : Nat) {i : Nat} (h : i < 25) : (cellsTo pb n)[i]? = some (cellTo pb n i) := by
  simp [cellsTo, h]
theorem cellsTo_0 (pb : Nat → Nat) : cellsTo pb 0 = List.replicate 25 (.pointer none) := by
  unfold cellsTo
  rw [List.map_congr_left (g := fun _ => Value.pointer none) (fun i _ => by simp [cellTo])]
  rfl
theorem cellsTo_same (pb : Nat → Nat) {j : Nat} (h6 : j % 6 = 0) : cellsTo pb (j + 1) = cellsTo pb j := by
  unfold cellsTo
  refine List.map_congr_left fun i _ => ?_
  unfold cellTo
  by_cases hi : i = j
  · subst hi; simp [h6]
  · have : (j + 1 ≤ i) ↔ (j ≤ i) := by omega
    simp only [this]
theorem cellsTo_set (pb : Nat → Nat) {j : Nat} (h : j < 25) (h6 : j % 6 ≠ 0) (b : Nat) : splice (cellsTo pb j) j [.pointer (some ⟨b, 0, none⟩)] = cellsTo (upf pb j b) (j + 1) := by
  have hs : splice (cellsTo pb j) j [.pointer (some ⟨b, 0, none⟩)] = (cellsTo pb j).set j (.pointer (some ⟨b, 0, none⟩)) := by
    rw [List.set_eq_take_append_cons_drop, if_pos (by rw [cellsTo_len]; exact h)]
    simp [splice]
  rw [hs]
  refine List.ext_getElem? fun i => ?_
  rw [List.getElem?_set]
  by_cases hi : j = i
  · subst hi
    rw [if_pos rfl, if_pos (by rw [cellsTo_len]; exact h), cellsTo_get _ _ h]
    simp [cellTo, h6, upf]
  · rw [if_neg hi]
    by_cases hi2 : i < 25
    · rw [cellsTo_get _ _ hi2, cellsTo_get _ _ hi2]
      have : (j + 1 ≤ i) ↔ (j ≤ i) := by omega
      simp only [cellTo, this, upf, if_neg (fun h => hi h.symm : ¬ i = j)]
    · rw [List.getElem?_eq_none (by rw [cellsTo_len]; omega), List.getElem?_eq_none (by rw [cellsTo_len]; omega)]
/-- the box of a way -/
def wayr (pb c : Nat → Nat) (q : Nat → List QE) (i : Nat) : Res := bxr (pb i) (c i) 8 (q i)
/-- a net: its block, its boxes -/
def ntr (e p : Nat) (pb c : Nat → Nat) (q : Nat → List QE) : Res := two (blk p e (cellsTo pb 25)) (fam ways20 (wayr pb c q))
/-- how many wait on the first ways -/
def lenTo (q : Nat → List QE) (n : Nat) : Nat := ((waysTo n).map fun i => (q i).length).sum
theorem lenTo_0 (q : Nat → List QE) : lenTo q 0 = 0 := by simp [lenTo, waysTo_0]
theorem lenTo_same (q : Nat → List QE) {j : Nat} (h : j < 25) (h6 : j % 6 = 0) : lenTo q (j + 1) = lenTo q j := by rw [lenTo, waysTo_same h h6]; rfl
theorem lenTo_more (q : Nat → List QE) {j : Nat} (h : j < 25) (h6 : j % 6 ≠ 0) : lenTo q (j + 1) = lenTo q j + (q j).length := by rw [lenTo, waysTo_more h h6]; simp [lenTo]
theorem sum_upf (q : Nat → List QE) (i : Nat) (v : List QE) : ∀ I : List Nat, I.Nodup → i ∈ I → (I.map fun j => (upf q i v j).length).sum + (q i).length = (I.map fun j => (q j).length).sum + v.length
  | [], _, h => by simp at h
  | j :: I, hn, h => by
    obtain ⟨h1, h2⟩ := List.nodup_cons.1 hn
    simp only [List.map_cons, List.sum_cons]
    by_cases hj : j = i
    · subst hj
      rw [upf_at, List.map_congr_left (g := fun k => (q k).length) (fun k hk => by rw [upf_ne]; rintro rfl; exact h1 hk)]
      omega
    · have hi : i ∈ I := by
        rcases List.mem_cons.1 h with rfl | h
        · exact absurd rfl hj
        · exact h
      have := sum_upf q i v I h2 hi
      rw [upf_ne _ _ hj]
      omega
theorem lenTo_upf (q : Nat → List QE) {i : Nat} (hi : i ∈ ways20) (v : List QE) : lenTo (upf q i v) 25 + (q i).length = lenTo q 25 + v.length := by
  unfold lenTo
  rw [waysTo_25]
  exact sum_upf q i v ways20 ways_nodup hi
theorem wayr_at (pb c : Nat → Nat) (q : Nat → List QE) (i : Nat) (v : List QE) : bxr (pb i) (c i) 8 v = wayr pb c (upf q i v) i := by unfold wayr; rw [upf_at]
theorem wayr_ne (pb c : Nat → Nat) (q : Nat → List QE) (i : Nat) (v : List QE) : ∀ j ∈ ways20, j ≠ i → wayr pb c (upf q i v) j = wayr pb c q j := fun j _ h => by unfold wayr; rw [upf_ne _ _ h]
theorem lenTo_none (n : Nat) : lenTo (fun _ => []) n = 0 := by
  unfold lenTo
  induction waysTo n with
  | nil => rfl
  | cons a l ih => simpa using ih
end Go.Proofs.Ytckoiabainpamaa
