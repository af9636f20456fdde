/-
  Plain law: who left has one heir, a member, by however many that left behind it. No program in sight.
-/
import Derived.Test.YtaeapoidigglnaaFewLaw
namespace Go.Proofs.Ytaeapoidigglnaa
open Go.RowKit
/-- where the heir of i is: h itself, if it is a member, or else as h's heir -/
def At (v : List Int) (f : Int → Option Value) (rank : Nat → Nat) (i h : Nat) : Prop :=
  (memB v h = true ∧ gi v (2 + i) = h + 1) ∨ (f h ≠ none ∧ gi v (2 + i) = gi v (2 + h) ∧ rank i < rank h)
/-- the map says to whom each one left -/
structure Left (v : List Int) (f : Int → Option Value) (rank : Nat → Nat) (N : Nat) : Prop where
  one : ∀ k u, f k = some u → ∃ i h : Nat, k = i ∧ i < 5 ∧ h < 5 ∧ u = .int .i64 h ∧ gi v (2 + i) ≠ 0 ∧ rank i < N ∧ At v f rank i h
  all : ∀ i : Nat, i < 5 → gi v (2 + i) ≠ 0 → f i ≠ none
theorem Left.first : Left firstV (fun _ => none) (fun _ => 0) 0 := by
  refine ⟨fun k u h => (by cases h), fun i hi h => ?_⟩
  have : ∀ i : Fin 5, gi firstV (2 + i.val) = 0 := by decide +kernel
  exact absurd (this ⟨i, hi⟩) h
theorem Left.join {v c : List Int} {n : Int} {f : Int → Option Value} {rank : Nat → Nat} {N : Nat} (g : Good v n) (h : okJ v c = true) (hf : Left v f rank N) : Left (nextJ v c) f rank N := by
  obtain ⟨k, hk, e0, e1, hz, hb⟩ := join_heir0 g h
  obtain ⟨m, hm0, hm1, em⟩ := g.mem
  obtain ⟨hl, h0, h1, h2⟩ := nextJ_cells g hk hm1 em e1 hb
  have hb' := hb
  rw [memB_nat hk, em] at hb'
  obtain ⟨ht, ht2⟩ := add_tab ⟨m, hm1⟩ ⟨k, hk⟩ hb'
  simp only at ht ht2
  have hmem : ∀ i : Nat, i < 5 → memB v i = true → memB (nextJ v c) i = true := by
    intro i hi hv
    have q := ht2 ⟨i, hi⟩
    simp only at q
    rw [memB_nat hi, em] at hv
    rw [memB_nat hi, h1, q, hv]
    rfl
  refine ⟨fun j u hj => ?_, fun i hi hne => hf.all i hi (by rw [← h2]; exact hne)⟩
  obtain ⟨i, d, a1, a2, a3, a4, a5, a6, a7⟩ := hf.one j u hj
  refine ⟨i, d, a1, a2, a3, a4, by rw [h2]; exact a5, a6, ?_⟩
  rcases a7 with ⟨b1, b2⟩ | ⟨b1, b2, b3⟩
  · exact .inl ⟨hmem d a3 b1, by rw [h2]; exact b2⟩
  · exact .inr ⟨b1, by rw [h2, h2]; exact b2, b3⟩
theorem Left.none_of {v : List Int} {f : Int → Option Value} {rank : Nat → Nat} {N : Nat} (hf : Left v f rank N) {i : Nat} (h : gi v (2 + i) = 0) : f i = none := by
  cases hfi : f i with
  | none => rfl
  | some u =>
    obtain ⟨j, d, a1, a2, a3, a4, a5, a6, a7⟩ := hf.one _ u hfi
    have : j = i := by omega
    subst this
    exact absurd h a5
theorem mem_heir0 {v : List Int} {n : Int} (g : Good v n) {k : Nat} (hk : k < 5) (hb : memB v k = true) : gi v (2 + k) = 0 := by
  by_cases hz : gi v (2 + k) = 0
  · exact hz
  · have := (g.heir k hk hz).2
    rw [hb] at this; cases this
theorem Left.leave {v c : List Int} {n : Int} {f : Int → Option Value} {rank : Nat → Nat} {N : Nat} (g : Good v n) (h : okL v c = true) (hf : Left v f rank N) :
    ∃ rank', Left (nextL v c) (fun i => if i = gi c 1 then some (.int .i64 (gi c 2)) else f i) rank' (N + 1) := by
  obtain ⟨k, d, hk, hd, hdk, e0, e1, e2, hb, hbd⟩ := okL_of h
  obtain ⟨m, hm0, hm1, em⟩ := g.mem
  obtain ⟨hl, h0, h1, h2⟩ := nextL_cells g hk hm1 em e1 e2 hb
  have hb' := hb
  rw [memB_nat hk, em] at hb'
  obtain ⟨_, ht2⟩ := sub_tab ⟨m, hm1⟩ ⟨k, hk⟩ hb'
  simp only at ht2
  have hmem : ∀ i : Nat, i < 5 → i ≠ k → memB (nextL v c) i = memB v i := by
    intro i hi hik
    have q := ht2 ⟨i, hi⟩
    simp only at q
    rw [memB_nat hi, memB_nat hi, h1, em, q]
    simp [hik]
  have hzk := mem_heir0 g hk hb
  have hzd := mem_heir0 g hd hbd
  have hvk : gi (nextL v c) (2 + k) = (d : Int) + 1 := by rw [h2 k hk]; exact if_pos (Or.inl rfl)
  have hfk := hf.none_of hzk
  refine ⟨fun i => if i = k then N else rank i, fun j u hj => ?_, fun i hi hne => ?_⟩
  · replace hj : (if j = gi c 1 then some (Value.int .i64 (gi c 2)) else f j) = some u := hj
    by_cases hjk : j = gi c 1
    · rw [if_pos hjk] at hj
      cases hj
      refine ⟨k, d, by rw [hjk, e1], hk, hd, by rw [e2], by omega, by rw [if_pos rfl]; omega, .inl ⟨?_, hvk⟩⟩
      rw [hmem d hd hdk]; exact hbd
    · rw [if_neg hjk] at hj
      obtain ⟨i, q, a1, a2, a3, a4, a5, a6, a7⟩ := hf.one j u hj
      have hik : i ≠ k := by rintro rfl; exact hjk (by rw [a1, e1])
      have hne : gi (nextL v c) (2 + i) ≠ 0 := by
        rw [h2 i a2]; split
        · omega
        · exact a5
      refine ⟨i, q, a1, a2, a3, a4, hne, by rw [if_neg hik]; omega, ?_⟩
      rcases a7 with ⟨b1, b2⟩ | ⟨b1, b2, b3⟩
      · by_cases hqk : q = k
        · subst hqk
          refine .inr ⟨?_, ?_, ?_⟩
          · simp only [e1, if_pos]; exact Option.some_ne_none _
          · rw [hvk, h2 i a2, if_pos (Or.inr b2)]
          · simp only [if_neg hik, if_pos]; exact a6
        · refine .inl ⟨by rw [hmem q a3 hqk]; exact b1, ?_⟩
          rw [h2 i a2, if_neg]
          · exact b2
          · rintro (h | h)
            · exact hik h
            · omega
      · have hqk : q ≠ k := by rintro rfl; exact b1 hfk
        refine .inr ⟨?_, ?_, ?_⟩
        · have : ¬ ((q : Int) = gi c 1) := by rw [e1]; omega
          simp only [if_neg this]; exact b1
        · rw [h2 i a2, h2 q a3, ← b2]
          simp only [hik, hqk, false_or]
        · simp only [if_neg hik, if_neg hqk]; exact b3
  · by_cases hik : i = k
    · subst hik
      simp only [e1, if_pos]; exact Option.some_ne_none _
    · have : ¬ ((i : Int) = gi c 1) := by rw [e1]; omega
      simp only [if_neg this]
      refine hf.all i hi fun hz => hne ?_
      rw [h2 i hi, if_neg]
      · exact hz
      · rintro (h | h)
        · exact hik h
        · omega
/-- on the way: x is such that who's heir is told by it -/
def Way (v : List Int) (f : Int → Option Value) (E : Int) (h : Nat) : Prop :=
  h < 5 ∧ ((memB v h = true ∧ E = h + 1) ∨ (f h ≠ none ∧ E = gi v (2 + h)))
def wayM (f : Int → Option Value) (rank : Nat → Nat) (N h : Nat) : Nat := if (f h).isSome then N - rank h else 0
theorem Left.way {v : List Int} {n : Int} {f : Int → Option Value} {rank : Nat → Nat} {N : Nat} (g : Good v n) (hf : Left v f rank N) {E : Int} {h : Nat} (hw : Way v f E h) :
    (f h = none ∧ E = h + 1 ∧ memB v h = true) ∨ (∃ d : Nat, f h = some (.int .i64 d) ∧ Way v f E d ∧ wayM f rank N d < wayM f rank N h) := by
  obtain ⟨h5, hw⟩ := hw
  cases hfh : f h with
  | none =>
    rcases hw with ⟨a, b⟩ | ⟨a, b⟩
    · exact .inl ⟨rfl, b, a⟩
    · exact absurd hfh a
  | some u =>
    have hE : E = gi v (2 + h) := by
      rcases hw with ⟨a, b⟩ | ⟨a, b⟩
      · rw [hf.none_of (mem_heir0 g h5 a)] at hfh; cases hfh
      · exact b
    obtain ⟨i, d, a1, a2, a3, a4, a5, a6, a7⟩ := hf.one _ u hfh
    have : i = h := by omega
    subst this
    refine .inr ⟨d, by rw [a4], ⟨a3, ?_⟩, ?_⟩
    · rcases a7 with ⟨b1, b2⟩ | ⟨b1, b2, b3⟩
      · exact .inl ⟨b1, by rw [hE]; exact b2⟩
      · exact .inr ⟨b1, by rw [hE]; exact b2⟩
    · unfold wayM
      rw [hfh]
      simp only [Option.isSome_some, if_pos]
      rcases a7 with ⟨b1, b2⟩ | ⟨b1, b2, b3⟩
      · rw [hf.none_of (mem_heir0 g a3 b1)]
        simp; omega
      · split <;> omega
/-- who left, and who did not -/
theorem Left.who {v : List Int} {n : Int} {f : Int → Option Value} {rank : Nat → Nat} {N : Nat} (g : Good v n) (hf : Left v f rank N) {i : Nat} (hi : i < 5) :
    (f i = none ∧ heirF v i = (0, false)) ∨ (∃ d : Nat, f i = some (.int .i64 d) ∧ heirF v i = (gi v (2 + i) - 1, true) ∧ Way v f (gi v (2 + i)) d) := by
  have hmi : machB (i : Int) = true := by have : (i : Int) < 5 := by omega
                                          simp [machB, this]
  cases hfi : f i with
  | none =>
    have hz : gi v (2 + i) = 0 := by
      by_cases hz : gi v (2 + i) = 0
      · exact hz
      · exact absurd hfi (hf.all i hi hz)
    refine .inl ⟨rfl, ?_⟩
    rw [heirF, if_neg]
    simp [hz]
  | some u =>
    obtain ⟨j, d, a1, a2, a3, a4, a5, a6, a7⟩ := hf.one _ u hfi
    have : j = i := by omega
    subst this
    have hge : 1 ≤ gi v (2 + j) := by obtain ⟨x, hx, ex, _⟩ := mem_of (g.heir j hi a5).1; omega
    refine .inr ⟨d, by rw [a4], ?_, a3, ?_⟩
    · rw [heirF, if_pos ⟨hmi, by simpa using hge⟩]; simp
    · rcases a7 with ⟨b1, b2⟩ | ⟨b1, b2, b3⟩
      · exact .inl ⟨b1, b2⟩
      · exact .inr ⟨b1, b2⟩
end Go.Proofs.Ytaeapoidigglnaa
