/-
  A vote's step, as one function: contracts of vote.Vowed and vote.Taken for a vote of the first view by the try (3, 1). No condition.
-/
import Derived.Test.YtaeapoidigglnaaVoteMore
namespace Go.Proofs.Ytaeapoidigglnaa
open Go.RowKit
/-- a vote: what it puts, the greatest try that was told, who vowed, who took -/
def stZ (w h : List Int) (V K : Int) : List Int := firstV ++ [3, 1] ++ w ++ h ++ [V, K]
def orV (V : Int) (k : Nat) : Int := bits BinOp.or IntKind.i64 V (2 ^ k)
def many (V : Int) : Bool := mostB V 7
def actB (P own : Bool) (who : Nat) : Bool := !P && own && decide (who < 3)
def takB (P own : Bool) (who : Nat) : Bool := P && own && decide (who < 3)
def lateB (h hd : List Int) : Bool := decide (0 < gi hd 0) && lessB (gi h 0) (gi h 1) (gi hd 0) (gi hd 1)
def tryB (own : Bool) : List Int := if own = true then [3, 1] else [4, 1]
theorem stZ_parts {w h : List Int} (V K : Int) (hw : w.length = 3) (hh : h.length = 2) : (stZ w h V K).length = 16 ∧ sub (stZ w h V K) 0 7 = firstV ∧ sub (stZ w h V K) 7 2 = [3, 1] ∧ sub (stZ w h V K) 9 3 = w ∧ sub (stZ w h V K) 12 2 = h ∧
    gi (stZ w h V K) 14 = V ∧ gi (stZ w h V K) 15 = K ∧ (∀ k, bitZ (stZ w h V K) 14 k = stZ w h (orV V k) K) ∧ (∀ k, bitZ (stZ w h V K) 15 k = stZ w h V (orV K k)) ∧
    (∀ k hd c, hd.length = 2 → c.length = 3 → turnZ (stZ w h V K) k hd c = stZ c hd (orV V k) K) := by
  match w, hw with
  | [a0, a1, a2], _ =>
    match h, hh with
    | [b0, b1], _ =>
      refine ⟨rfl, rfl, rfl, rfl, rfl, rfl, rfl, fun k => rfl, fun k => rfl, fun k hd c h1 h2 => ?_⟩
      match hd, h1 with
      | [d0, d1], _ =>
        match c, h2 with
        | [c0, c1, c2], _ => rfl
theorem mem_first (who : Nat) : memB firstV (who : Int) = decide (who < 3) := by
  by_cases h : who < 5
  · have : ∀ k : Fin 5, memB firstV ((k.val : Nat) : Int) = decide (k.val < 3) := by decide +kernel
    exact this ⟨who, h⟩
  · unfold memB machB
    have h1 : decide ((who : Int) < 5) = false := by simp; omega
    have h2 : decide (who < 3) = false := by simp; omega
    rw [h1, h2]; simp
theorem orV_tab : ∀ V : Fin 8, ∀ k : Fin 3, 0 ≤ orV ((V.val : Nat) : Int) k.val ∧ orV ((V.val : Nat) : Int) k.val ≤ 7 := by decide +kernel
theorem orV_range {V : Int} {k : Nat} (h0 : 0 ≤ V) (h7 : V ≤ 7) (hk : k < 3) : 0 ≤ orV V k ∧ orV V k ≤ 7 := by
  obtain ⟨n, rfl⟩ : ∃ n : Nat, V = n := ⟨V.toNat, by omega⟩
  exact orV_tab ⟨n, by omega⟩ ⟨k, hk⟩
theorem many_tab : ∀ V : Fin 8, many ((V.val : Nat) : Int) = ((((V.val : Nat) : Int) == 3) || (((V.val : Nat) : Int) == 5) || (((V.val : Nat) : Int) == 6) || (((V.val : Nat) : Int) == 7)) := by decide +kernel
theorem many_eq {V : Int} (h0 : 0 ≤ V) (h7 : V ≤ 7) : many V = ((V == 3) || (V == 5) || (V == 6) || (V == 7)) := by
  obtain ⟨n, rfl⟩ : ∃ n : Nat, V = n := ⟨V.toNat, by omega⟩
  exact many_tab ⟨n, by omega⟩
theorem tryB_len (own : Bool) : (tryB own).length = 2 := by cases own <;> rfl
theorem vowed_st (w0 : World) (b : Nat) (e0 : TypeId) {w h : List Int} (V K : Int) (P own : Bool) (hw : w.length = 3) (hh : h.length = 2) (hb : w0.heap[b]? = some (.cells (mix (stZ w h V K) [P]).toArray e0 (0, 0))) (who : Nat) (hd c : List Int) (had2 : hd.length = 2) (hc3 : c.length = 3) :
    Calls Try.prog 31 #[.pointer (some ⟨b, 0, none⟩), .int .i64 who, ia (tryB own), ia hd, ia c] w0 fun e w' => e = .returned (.bool (actB P own who && many (orV V who))) ∧ Step [b] w0 w' ∧
      w'.heap[b]? = some (.cells (mix (stZ (if (actB P own who && lateB h hd) = true then c else w) (if (actB P own who && lateB h hd) = true then hd else h) (if actB P own who = true then orV V who else V) K) [if actB P own who = true then many (orV V who) else P]).toArray e0 (0, 0)) := by
  obtain ⟨zl, z07, z72, z93, z122, z14, z15, zb, zb2, zt⟩ := stZ_parts V K hw hh
  cases hact : actB P own who
  · have hno : P = true ∨ (P = false ∧ decide (tryB own = sub (stZ w h V K) 7 2) = false) ∨ (P = false ∧ decide (tryB own = sub (stZ w h V K) 7 2) = true ∧ memB (sub (stZ w h V K) 0 7) who = false) := by
      rw [z72, z07, mem_first]
      cases P
      · cases own
        · exact .inr (.inl ⟨rfl, by decide⟩)
        · refine .inr (.inr ⟨rfl, by decide, ?_⟩)
          unfold actB at hact; simpa using hact
      · exact .inl rfl
    have := vowed_no w0 b e0 (stZ w h V K) P zl hb who (tryB own) hd c (tryB_len own) had2 hc3 hno
    simpa using this
  · have hpo : P = false ∧ own = true ∧ who < 3 := by
      unfold actB at hact; cases P <;> cases own <;> simp_all
    obtain ⟨rfl, rfl, hk3⟩ := hpo
    have hm : memB (sub (stZ w h V K) 0 7) (who : Int) = true := by rw [z07, mem_first]; simpa using hk3
    have e7 : gi (sub (bitZ (stZ w h V K) 14 who) 0 7) 1 = 7 := by
      rw [zb, (stZ_parts (orV V who) K hw hh).2.1]; decide
    have e14 : gi (bitZ (stZ w h V K) 14 who) 14 = orV V who := by rw [zb, (stZ_parts (orV V who) K hw hh).2.2.2.2.2.1]
    have e12 : sub (bitZ (stZ w h V K) 14 who) 12 2 = h := by rw [zb, (stZ_parts (orV V who) K hw hh).2.2.2.2.1]
    have et : tryB true = sub (stZ w h V K) 7 2 := by rw [z72]; rfl
    rw [et]
    by_cases hp : 0 < gi hd 0
    · cases hls : lessB (gi h 0) (gi h 1) (gi hd 0) (gi hd 1)
      · have := vowed_keep w0 b e0 (stZ w h V K) zl hb who (by omega) hm hd c had2 hc3 hp (by rw [e12]; exact hls)
        rw [e7, e14, zb] at this
        have hl : lateB h hd = false := by unfold lateB; rw [hls]; simp
        rw [hl]
        exact this
      · have := vowed_turn w0 b e0 (stZ w h V K) zl hb who (by omega) hm hd c had2 hc3 hp (by rw [e12]; exact hls)
        have hl : lateB h hd = true := by unfold lateB; rw [hls]; simpa using hp
        rw [hl]
        rw [zt who hd c had2 hc3, (stZ_parts (orV V who) K hc3 had2).2.1, (stZ_parts (orV V who) K hc3 had2).2.2.2.2.2.1] at this
        exact this
    · have := vowed_yes w0 b e0 (stZ w h V K) zl hb who (by omega) hm hd c had2 hc3 (by omega)
      rw [e7, e14, zb] at this
      have hl : lateB h hd = false := by unfold lateB; simp [hp]
      rw [hl]
      exact this
theorem taken_st (w0 : World) (b : Nat) (e0 : TypeId) {w h : List Int} (V K : Int) (P own : Bool) (hw : w.length = 3) (hh : h.length = 2) (hb : w0.heap[b]? = some (.cells (mix (stZ w h V K) [P]).toArray e0 (0, 0))) (who : Nat) :
    Calls Try.prog 32 #[.pointer (some ⟨b, 0, none⟩), .int .i64 who, ia (tryB own)] w0 fun e w' => e = .returned (.bool (takB P own who && many (orV K who))) ∧ Step [b] w0 w' ∧
      w'.heap[b]? = some (.cells (mix (stZ w h V (if takB P own who = true then orV K who else K)) [P]).toArray e0 (0, 0)) := by
  obtain ⟨zl, z07, z72, z93, z122, z14, z15, zb, zb2, zt⟩ := stZ_parts V K hw hh
  cases hact : takB P own who
  · have hno : P = false ∨ (P = true ∧ decide (tryB own = sub (stZ w h V K) 7 2) = false) ∨ (P = true ∧ decide (tryB own = sub (stZ w h V K) 7 2) = true ∧ memB (sub (stZ w h V K) 0 7) who = false) := by
      rw [z72, z07, mem_first]
      cases P
      · exact .inl rfl
      · cases own
        · exact .inr (.inl ⟨rfl, by decide⟩)
        · refine .inr (.inr ⟨rfl, by decide, ?_⟩)
          unfold takB at hact; simpa using hact
    have := taken_no w0 b e0 (stZ w h V K) P zl hb who (tryB own) (tryB_len own) hno
    simpa using this
  · have hpo : P = true ∧ own = true ∧ who < 3 := by
      unfold takB at hact; cases P <;> cases own <;> simp_all
    obtain ⟨rfl, rfl, hk3⟩ := hpo
    have hm : memB (sub (stZ w h V K) 0 7) (who : Int) = true := by rw [z07, mem_first]; simpa using hk3
    have e7 : gi (sub (bitZ (stZ w h V K) 15 who) 0 7) 1 = 7 := by
      rw [zb2, (stZ_parts V (orV K who) hw hh).2.1]; decide
    have e15 : gi (bitZ (stZ w h V K) 15 who) 15 = orV K who := by rw [zb2, (stZ_parts V (orV K who) hw hh).2.2.2.2.2.2.1]
    have et : tryB true = sub (stZ w h V K) 7 2 := by rw [z72]; rfl
    rw [et]
    have := taken_yes w0 b e0 (stZ w h V K) zl hb who (by omega) hm
    rw [e7, e15, zb2] at this
    exact this
end Go.Proofs.Ytaeapoidigglnaa
