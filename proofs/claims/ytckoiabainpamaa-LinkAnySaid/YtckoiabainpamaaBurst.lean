/-
  Plain law: what SumBursts makes of the bytes, and that Take tells it. No program in sight; no condition.
-/
import Derived.Test.YtckoiabainpamaaSumLaw
namespace Go.Proofs.Ytckoiabainpamaa
open Go.RowKit

/-- the k-th byte of x, the lowest one first -/
def byt (x : UInt32) (k : Nat) : UInt8 := UInt8.ofNat (x.toNat / 2 ^ (8 * k))
theorem byt_toNat (x : UInt32) (k : Nat) : (byt x k).toNat = x.toNat / 2 ^ (8 * k) % 256 := by simp [byt]
/-- k bytes from s on are turned -/
def winx (x : UInt32) (s k : Nat) (p : List UInt8) : List UInt8 := p.mapIdx fun i c => if s ≤ i ∧ i < s + k then c ^^^ byt x (i - s) else c
def chg (x : UInt32) (s n k : Nat) : Bool := (List.range k).any fun j => decide (s + j < n) && (byt x j != 0)
theorem winx_len (x : UInt32) (s k : Nat) (p : List UInt8) : (winx x s k p).length = p.length := by simp [winx]
theorem winx_zero (x : UInt32) (s : Nat) (p : List UInt8) : winx x s 0 p = p := by
  apply List.ext_getElem?
  intro i
  simp only [winx, List.getElem?_mapIdx]
  cases p[i]? with
  | none => rfl
  | some c => simp; intro h1 h2; omega
theorem winx_get (x : UInt32) (s k : Nat) (p : List UInt8) (i : Nat) : (winx x s k p)[i]? = (p[i]?).map fun c => if s ≤ i ∧ i < s + k then c ^^^ byt x (i - s) else c := by
  simp [winx, List.getElem?_mapIdx]
theorem winx_keep (x : UInt32) (s k : Nat) (p : List UInt8) (h : ¬ (s + k < p.length) ∨ byt x k = 0) : winx x s (k + 1) p = winx x s k p := by
  apply List.ext_getElem?
  intro i
  rw [winx_get, winx_get]
  by_cases hi : i < p.length
  · rw [List.getElem?_eq_getElem hi]
    simp only [Option.map_some, Option.some.injEq]
    by_cases he : i = s + k
    · subst he
      rcases h with h | h
      · exact absurd hi h
      · rw [if_pos (by omega), if_neg (by omega), show s + k - s = k from by omega, h]; simp
    · by_cases h1 : s ≤ i ∧ i < s + k
      · rw [if_pos h1, if_pos (by omega)]
      · rw [if_neg h1, if_neg (by omega)]
  · rw [List.getElem?_eq_none (by omega)]; rfl
theorem winx_at (x : UInt32) (s k : Nat) (p : List UInt8) (h : s + k < p.length) : (winx x s k p)[s + k]? = some p[s + k] := by
  rw [winx_get, List.getElem?_eq_getElem h]; simp
theorem winx_set (x : UInt32) (s k : Nat) (p : List UInt8) (h : s + k < p.length) : (winx x s k p).set (s + k) (p[s + k] ^^^ byt x k) = winx x s (k + 1) p := by
  apply List.ext_getElem?
  intro i
  rw [List.getElem?_set, winx_len, winx_get, winx_get]
  by_cases he : s + k = i
  · subst he
    rw [if_pos rfl, if_pos h, List.getElem?_eq_getElem h]
    simp only [Option.map_some, Option.some.injEq]
    rw [if_pos (by omega), show s + k - s = k from by omega]
  · rw [if_neg he]
    congr 1
    funext c
    by_cases h1 : s ≤ i ∧ i < s + k
    · rw [if_pos h1, if_pos (by omega)]
    · rw [if_neg h1, if_neg (by omega)]
theorem chg_zero (x : UInt32) (s n : Nat) : chg x s n 0 = false := rfl
theorem chg_succ (x : UInt32) (s n k : Nat) : chg x s n (k + 1) = (chg x s n k || (decide (s + k < n) && (byt x k != 0))) := by
  unfold chg; rw [List.range_succ, List.any_append]; simp
theorem winx_same (x : UInt32) (s : Nat) (p : List UInt8) : ∀ k, chg x s p.length k = false → winx x s k p = p
  | 0, _ => winx_zero x s p
  | k + 1, h => by
    rw [chg_succ, Bool.or_eq_false_iff] at h
    rw [winx_keep x s k p (by
      have := h.2
      simp only [Bool.and_eq_false_iff, decide_eq_false_iff_not, bne_eq_false_iff_eq] at this
      exact this), winx_same x s p k h.1]
theorem xor_self8 {c b : UInt8} (h : c ^^^ b = c) : b = 0 := by
  have := congrArg (c ^^^ ·) h
  simpa [← UInt8.xor_assoc] using this
theorem take_winx (bs : List UInt8) (x : UInt32) (s : Nat) : takeF (winx x s 4 (putF bs)) = if chg x s (putF bs).length 4 = true then none else some bs := by
  cases hc : chg x s (putF bs).length 4
  · rw [if_neg (by simp), winx_same x s (putF bs) 4 hc, take_put]
  · rw [if_pos rfl]
    generalize hp : putF bs = p at *
    have e : ∀ q : List UInt8, q = q.take s ++ (q.drop s).take 4 ++ q.drop (s + 4) := fun q => by
      rw [List.append_assoc, ← List.drop_drop, List.take_append_drop, List.take_append_drop]
    have h1 : (winx x s 4 p).take s = p.take s := by
      apply List.ext_getElem?
      intro i
      rw [List.getElem?_take, List.getElem?_take]
      by_cases hi : i < s
      · rw [if_pos hi, if_pos hi, winx_get]
        cases p[i]? with
        | none => rfl
        | some c => simp; intro h; omega
      · rw [if_neg hi, if_neg hi]
    have h2 : (winx x s 4 p).drop (s + 4) = p.drop (s + 4) := by
      apply List.ext_getElem?
      intro i
      rw [List.getElem?_drop, List.getElem?_drop, winx_get]
      cases p[s + 4 + i]? with
      | none => rfl
      | some c => simp; intro h h'; omega
    rw [e (winx x s 4 p), h1, h2]
    refine take_burst (b := bs) (m := (p.drop s).take 4) (by rw [hp]; exact e p) (by simp [winx_len]) (by simp; omega) ?_
    intro hm
    obtain ⟨j, hj, hjc⟩ := List.any_eq_true.1 hc
    simp only [List.mem_range, Bool.and_eq_true, decide_eq_true_eq, bne_iff_ne, ne_eq] at hj hjc
    have := congrArg (fun l => l[j]?) hm
    simp only [List.getElem?_take, List.getElem?_drop, if_pos hj, winx_get, List.getElem?_eq_getElem hjc.1, Option.map_some, Option.some.injEq] at this
    rw [if_pos (by omega), show s + j - s = j from by omega] at this
    exact hjc.2 (xor_self8 this.symm)
end Go.Proofs.Ytckoiabainpamaa
