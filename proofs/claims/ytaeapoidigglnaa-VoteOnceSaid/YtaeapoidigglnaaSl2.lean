/-
  Parts of a slice that is read. No condition.
-/
import Derived.Test.YtaeapoidigglnaaSl
namespace Go.Proofs.Ytaeapoidigglnaa
open Go.RowKit
theorem Rd.drop {w : World} {b off : Nat} {xs : List Value} (h : Rd w (some ⟨b, off, none⟩) xs) (k : Nat) : Rd w (some ⟨b, off + k, none⟩) (xs.drop k) := by
  intro j u hj
  rw [List.getElem?_drop] at hj
  obtain ⟨b', off', ha, hc⟩ := h (k + j) u hj
  cases ha
  exact ⟨b, off + k, rfl, by rw [Nat.add_assoc]; exact hc⟩
theorem Rd.take {w : World} {a : Option Addr} {xs : List Value} (h : Rd w a xs) (k : Nat) : Rd w a (xs.take k) := by
  intro j u hj
  rw [List.getElem?_take] at hj
  split at hj
  · exact h j u hj
  · cases hj
theorem Rd.map_drop {α : Type} {f : α → Value} {w : World} {b off : Nat} {xs : List α} (h : Rd w (some ⟨b, off, none⟩) (xs.map f)) (k : Nat) : Rd w (some ⟨b, off + k, none⟩) ((xs.drop k).map f) := by
  rw [List.map_drop]; exact h.drop k
theorem Rd.map_take {α : Type} {f : α → Value} {w : World} {a : Option Addr} {xs : List α} (h : Rd w a (xs.map f)) (k : Nat) : Rd w a ((xs.take k).map f) := by
  rw [List.map_take]; exact h.take k
theorem one_i64 (zs : List Int) : ∀ u ∈ zs.map (Value.int .i64), u.oneCell' = true := by
  intro u hu
  obtain ⟨_, _, rfl⟩ := List.mem_map.1 hu
  rfl
/-- where a slice of the call's own lies that holds something -/
theorem osl_some {T : List Nat} {w0 w : World} {m : List Res} {e size n n' c : Nat} {a' : Option Addr} {xs : List Value} (h : Inv T w0 w m) (hm : osl e size (.slice a' n' c) n xs ∈ m) (hx : 0 < xs.length) : ∃ g, a' = some ⟨g, 0, none⟩ := by
  have hs : w.ownsRow 0 e size (.slice a' n' c) n xs := h.sat _ hm
  rcases hs.2 with ⟨_, rfl⟩ | ⟨g, cap, cur, hv, _⟩
  · have := hs.1; simp at this; subst this; simp at hx
  · cases hv; exact ⟨g, rfl⟩
section
variable {P : Program} {ops : Array Oper} {Q : Exit → Act → World → Prop} {a : Act} {rest : List Oper} {T : List Nat} {w0 w : World} {m : List Res} {dst : Option Tmp} {ty : TypeId} {pos : String} {af : Array Edge}
theorem fill_one (n : Nat) : Array.range n = (List.range n).toArray := by simp
/-- a slice of one, of four, that is written out -/
theorem wpList_bslice1v {t e bytes : Nat} {z : Value} {x0 : Operand} {v0 : Value} (hI : Inv T w0 w m) (hT : SlT P t e 1 bytes z) (h0 : a.eval x0 = v0) (hc : v0.cells = #[v0])
    (k : ∀ b w', Inv T w0 w' (osl e 1 (.slice (some ⟨b, 0, none⟩) 1 1) 1 [v0] :: m) → wpList P ops Q rest (a.put dst (.slice (some ⟨b, 0, none⟩) 1 1)) w') :
    wpList P ops Q (⟨dst, .buildSlice t 1 #[(0, x0)], ty, pos, af, none⟩ :: rest) a w :=
  wpList_bslice hI hT (by decide) (by decide) (by simp [Instr.fill, h0, hc, show Array.range 1 = #[0] from by decide]) (by rfl) k
theorem wpList_bslice4v {t e bytes : Nat} {z : Value} {x0 x1 x2 x3 : Operand} {v0 v1 v2 v3 : Value} (hI : Inv T w0 w m) (hT : SlT P t e 1 bytes z) (h0 : a.eval x0 = v0) (h1 : a.eval x1 = v1) (h2 : a.eval x2 = v2) (h3 : a.eval x3 = v3)
    (c0 : v0.cells = #[v0]) (c1 : v1.cells = #[v1]) (c2 : v2.cells = #[v2]) (c3 : v3.cells = #[v3])
    (k : ∀ b w', Inv T w0 w' (osl e 1 (.slice (some ⟨b, 0, none⟩) 4 4) 4 [v0, v1, v2, v3] :: m) → wpList P ops Q rest (a.put dst (.slice (some ⟨b, 0, none⟩) 4 4)) w') :
    wpList P ops Q (⟨dst, .buildSlice t 4 #[(0, x0), (1, x1), (2, x2), (3, x3)], ty, pos, af, none⟩ :: rest) a w :=
  wpList_bslice hI hT (by decide) (by decide) (by simp [Instr.fill, h0, h1, h2, h3, c0, c1, c2, c3, show Array.range 4 = #[0, 1, 2, 3] from by decide]) (by rfl) k
theorem wpList_bslice2v {t e bytes : Nat} {z : Value} {x0 x1 : Operand} {v0 v1 : Value} (hI : Inv T w0 w m) (hT : SlT P t e 1 bytes z) (h0 : a.eval x0 = v0) (h1 : a.eval x1 = v1)
    (c0 : v0.cells = #[v0]) (c1 : v1.cells = #[v1])
    (k : ∀ b w', Inv T w0 w' (osl e 1 (.slice (some ⟨b, 0, none⟩) 2 2) 2 [v0, v1] :: m) → wpList P ops Q rest (a.put dst (.slice (some ⟨b, 0, none⟩) 2 2)) w') :
    wpList P ops Q (⟨dst, .buildSlice t 2 #[(0, x0), (1, x1)], ty, pos, af, none⟩ :: rest) a w :=
  wpList_bslice hI hT (by decide) (by decide) (by simp [Instr.fill, h0, h1, c0, c1, show Array.range 2 = #[0, 1] from by decide]) (by rfl) k
theorem wpList_bslice1s {t e bytes : Nat} {z : Value} {x0 : Operand} {ao : Option Addr} {n c : Nat} (hI : Inv T w0 w m) (hT : SlT P t e 1 bytes z) (h0 : a.eval x0 = .slice ao n c)
    (k : ∀ b w', Inv T w0 w' (osl e 1 (.slice (some ⟨b, 0, none⟩) 1 1) 1 [.slice ao n c] :: m) → wpList P ops Q rest (a.put dst (.slice (some ⟨b, 0, none⟩) 1 1)) w') :
    wpList P ops Q (⟨dst, .buildSlice t 1 #[(0, x0)], ty, pos, af, none⟩ :: rest) a w := wpList_bslice1v hI hT h0 rfl k
theorem wpList_bslice4i {t e bytes : Nat} {z : Value} {kd : IntKind} {x0 x1 x2 x3 : Operand} {v0 v1 v2 v3 : Int} (hI : Inv T w0 w m) (hT : SlT P t e 1 bytes z) (h0 : a.eval x0 = .int kd v0) (h1 : a.eval x1 = .int kd v1) (h2 : a.eval x2 = .int kd v2) (h3 : a.eval x3 = .int kd v3)
    (k : ∀ b w', Inv T w0 w' (osl e 1 (.slice (some ⟨b, 0, none⟩) 4 4) 4 [.int kd v0, .int kd v1, .int kd v2, .int kd v3] :: m) → wpList P ops Q rest (a.put dst (.slice (some ⟨b, 0, none⟩) 4 4)) w') :
    wpList P ops Q (⟨dst, .buildSlice t 4 #[(0, x0), (1, x1), (2, x2), (3, x3)], ty, pos, af, none⟩ :: rest) a w := wpList_bslice4v hI hT h0 h1 h2 h3 rfl rfl rfl rfl k
theorem wpList_bslice2i {t e bytes : Nat} {z : Value} {kd : IntKind} {x0 x1 : Operand} {v0 v1 : Int} (hI : Inv T w0 w m) (hT : SlT P t e 1 bytes z) (h0 : a.eval x0 = .int kd v0) (h1 : a.eval x1 = .int kd v1)
    (k : ∀ b w', Inv T w0 w' (osl e 1 (.slice (some ⟨b, 0, none⟩) 2 2) 2 [.int kd v0, .int kd v1] :: m) → wpList P ops Q rest (a.put dst (.slice (some ⟨b, 0, none⟩) 2 2)) w') :
    wpList P ops Q (⟨dst, .buildSlice t 2 #[(0, x0), (1, x1)], ty, pos, af, none⟩ :: rest) a w := wpList_bslice2v hI hT h0 h1 rfl rfl k
end
end Go.Proofs.Ytaeapoidigglnaa
