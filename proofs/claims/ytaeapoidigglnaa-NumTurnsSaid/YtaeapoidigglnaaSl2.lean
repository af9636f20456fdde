/-
  Parts of a slice that is read. No condition.
-/
import Derived.Test.YtaeapoidigglnaaSl
namespace Go.Proofs.Ytaeapoidigglnaa
open Go.RowKit
theorem Rd.drop {w : World} {b off : Nat} {xs : List Value} (h : Rd w (some ⟨b, off, none⟩) xs) (k : Nat) : Rd w (some ⟨b, off + k, none⟩) (xs.drop k) := by
  intro j u hj
  rw [List.getElem?_drop] at hj
  obtain ⟨b', off', ha, hc⟩ := h (k + j) u hj
  cases ha
  exact ⟨b, off + k, rfl, by rw [Nat.add_assoc]; exact hc⟩
theorem Rd.take {w : World} {a : Option Addr} {xs : List Value} (h : Rd w a xs) (k : Nat) : Rd w a (xs.take k) := by
  intro j u hj
  rw [List.getElem?_take] at hj
  split at hj
  · exact h j u hj
  · cases hj
theorem Rd.map_drop {α : Type} {f : α → Value} {w : World} {b off : Nat} {xs : List α} (h : Rd w (some ⟨b, off, none⟩) (xs.map f)) (k : Nat) : Rd w (some ⟨b, off + k, none⟩) ((xs.drop k).map f) := by
  rw [List.map_drop]; exact h.drop k
theorem Rd.map_take {α : Type} {f : α → Value} {w : World} {a : Option Addr} {xs : List α} (h : Rd w a (xs.map f)) (k : Nat) : Rd w a ((xs.take k).map f) := by
  rw [List.map_take]; exact h.take k
theorem one_i64 (zs : List Int) : ∀ u ∈ zs.map (Value.int .i64), u.oneCell' = true := by
  intro u hu
  obtain ⟨_, _, rfl⟩ := List.mem_map.1 hu
  rfl
end Go.Proofs.Ytaeapoidigglnaa
