/-
  A region that draws its order, walked once in the order of the text: operations that only look at slots; reads and calls in a class of worlds; and writers, which stand in one order with all of those. No condition.
-/
import Derived.Test.YtaeapoidigglnaaRules
namespace Go.Proofs.Ytaeapoidigglnaa
open Go.RowKit

section
variable {P : Program} {ops : Array Oper}

/-- nothing but the normal end: that frame, a world of that class -/
def regPost (A : Act) (C : World → Prop) : Exit → Act → World → Prop := fun e a w => e = .normal ∧ a = A ∧ C w
def regK (A : Act) (C : World → Prop) : Act → World → Prop := fun a w => a = A ∧ C w

theorem put_same {A a : Act} {dst : Option Tmp} {v u : Value} (hsz : a.tmps.size = A.tmps.size) (h : A.put dst u = A.put dst v) : a.put dst u = a.put dst v := by
  cases dst with
  | none => rfl
  | some d =>
    simp only [Act.put, Act.mk.injEq, and_true] at h ⊢
    rcases Nat.lt_or_ge d A.tmps.size with hd | hd
    · have := congrArg (fun x => x[d]?) h
      simp [hd] at this
      rw [this]
    · have hd' : a.tmps.size ≤ d := by rw [hsz]; exact hd
      rw [Array.setIfInBounds_eq_of_size_le hd', Array.setIfInBounds_eq_of_size_le hd']

theorem wp_transfer {o : Oper} {a A : Act} {w : World} {C : World → Prop} {v : Value} {K : Act → World → Prop} {Q : Exit → Act → World → Prop} (he : execOp a.eval o = execOp A.eval o) (hsz : a.tmps.size = A.tmps.size)
    (h : o.wp P A w (regK (A.put o.dst v) C) (fun _ _ _ => False)) (hk : ∀ w', C w' → K (a.put o.dst v) w') : o.wp P a w K Q := by
  unfold Oper.wp at h ⊢
  rw [he]
  generalize (execOp A.eval o).run P w = r at h
  have fin : ∀ u w', regK (A.put o.dst v) C (A.put o.dst u) w' → K (a.put o.dst u) w' := fun u w' hh => by
    rw [put_same hsz hh.1]; exact hk w' hh.2
  cases r with
  | ok n w' =>
    cases n <;> simp only [Oper.upon] at h ⊢
    case value u => exact fin u w' h
    case skip => exact fin undef w' h
    case enter f args =>
      refine h.mono fun e w'' hh => ?_
      cases e with
      | returned u => exact fin u w'' hh
      | panicked c => exact hh.elim
      | outgrown => obtain ⟨_, _, hh⟩ := hh; exact hh.elim
    case defer d =>
      have := congrArg Act.defers h.1
      cases ho : o.dst <;> rw [ho] at this <;> simp [Act.put] at this
    case row r args => exact h.mono fun u w'' hh => fin u w'' hh
  | halt x w' => cases x <;> simp only [Oper.upon] at h

/-- one operation by the walk -/
theorem wp_of_one {o : Oper} {a : Act} {w : World} {A : Act} {C : World → Prop} (hw : Region.wanted o (yielded ops a.tmps) = true) (h : wpList P ops (regPost A C) [o] a w) : o.wp P a w (regK A C) (fun _ _ _ => False) := by
  unfold wpList at h
  rw [if_pos hw] at h
  rcases h with h | ⟨_, a', w', h⟩
  · unfold Oper.wp at h ⊢
    generalize (execOp a.eval o).run P w = r at h
    have one : ∀ a w, wpList P ops (regPost A C) [] a w → regK A C a w := fun a w hh => hh.2
    cases r with
    | ok n w' =>
      cases n <;> simp only [Oper.upon] at h ⊢
      case value u => exact one _ _ h
      case skip => exact one _ _ h
      case defer d => exact one _ _ h
      case enter f args =>
        refine h.mono fun e w'' hh => ?_
        cases e with
        | returned u => exact one _ _ hh
        | panicked c => cases hh.1
        | outgrown => obtain ⟨_, _, hh⟩ := hh; cases hh.1
      case row r args => exact h.mono fun u w'' hh => one _ _ hh
    | halt x w' => cases x <;> simp only [Oper.upon] at h ⊢ <;> first | (cases h.1; done) | exact h
  · cases h.1

/-! ### The static look at a region -/
/-- operation k waits for operation j, at once or through others -/
def anc (ops : Array Oper) : Nat → Nat → Nat → Bool
  | 0, _, _ => false
  | f + 1, k, j => match ops[k]? with
    | none => false
    | some o => o.after.toList.any fun e => Region.binds .any e && (e.on == j || anc ops f e.on j)
def ordered (ops : Array Oper) (k s : Nat) : Bool := if s < k then anc ops ops.size k s else anc ops ops.size s k
/-- it stands in one order with all writers -/
def rd (ops : Array Oper) (S : List Nat) (k : Nat) : Bool := S.all fun s => s == k || ordered ops k s
def looksB (ops : Array Oper) (k : Nat) (o : Oper) : Bool := (o.looksAt ops).all fun t => (List.range ops.size).all fun j =>
  !((ops[j]?).bind (·.dst) == some t) || (decide (j < k) && anc ops ops.size k j)
def dstsB (ops : Array Oper) : Bool := (List.range ops.size).all fun i => (List.range ops.size).all fun j => i == j || ((ops[i]?).bind (·.dst)).isNone || !((ops[i]?).bind (·.dst) == (ops[j]?).bind (·.dst))
def okReg (ops : Array Oper) (S : List Nat) : Bool := Region.noSelect ops && dstsB ops && S.all (rd ops S) &&
  (List.range ops.size).all fun k => match ops[k]? with
    | none => true
    | some o => (o.after.all fun e => !Region.binds .any e || decide (e.on < k)) && looksB ops k o

/-- THE LEXICAL WALK -/
def wpReg (P : Program) (ops : Array Oper) (S : List Nat) (E : World → Prop) (F : (World → Prop) → Act → Prop) : List Oper → Nat → (World → Prop) → Act → Prop
  | [], _, C, a => F C a
  | o :: rest, k, C, a => if Region.wanted o (yielded ops a.tmps) then
      ∃ (v : Value) (C' : World → Prop), wpReg P ops S E F rest (k + 1) C' (a.put o.dst v) ∧
        ((S.elem k = false ∧ C' = C ∧ ∀ D : World → Prop, ∀ w, D w → E w → o.wp P a w (regK (a.put o.dst v) D) (fun _ _ _ => False)) ∨
         (rd ops S k = true ∧ (C' = C ∨ (k ∈ S ∧ ∀ w, C' w → E w)) ∧ ∀ w, C w → o.wp P a w (regK (a.put o.dst v) C') (fun _ _ _ => False)))
    else wpReg P ops S E F rest (k + 1) C (a.put o.dst undef)

theorem facts_of_wpReg {S : List Nat} {E : World → Prop} {F : (World → Prop) → Act → Prop} : ∀ (l : List Oper) (k : Nat) (C : World → Prop) (a : Act), (∀ j, l[j]? = ops[k + j]?) → wpReg P ops S E F l k C a →
    ∃ (A : Nat → Act) (Cs : Nat → World → Prop) (vals : Nat → Value), A k = a ∧ Cs k = C ∧ F (Cs (k + l.length)) (A (k + l.length)) ∧
      ∀ i, k ≤ i → i < k + l.length → ∀ o, ops[i]? = some o → A (i + 1) = (A i).put o.dst (vals i) ∧
        if Region.wanted o (yielded ops (A i).tmps) then
          ((S.elem i = false ∧ Cs (i + 1) = Cs i ∧ ∀ D : World → Prop, ∀ w, D w → E w → o.wp P (A i) w (regK ((A i).put o.dst (vals i)) D) (fun _ _ _ => False)) ∨
           (rd ops S i = true ∧ (Cs (i + 1) = Cs i ∨ (i ∈ S ∧ ∀ w, Cs (i + 1) w → E w)) ∧ ∀ w, Cs i w → o.wp P (A i) w (regK ((A i).put o.dst (vals i)) (Cs (i + 1))) (fun _ _ _ => False)))
        else Cs (i + 1) = Cs i ∧ vals i = undef
  | [], k, C, a, _, h => ⟨fun _ => a, fun _ => C, fun _ => undef, rfl, rfl, h, fun i h1 h2 => by simp at h2; omega⟩
  | o :: l, k, C, a, hl, h => by
    have h0 : ops[k]? = some o := by simpa using (hl 0).symm
    have hl' : ∀ j, l[j]? = ops[k + 1 + j]? := fun j => by have := hl (j + 1); simpa [Nat.add_assoc, Nat.add_comm 1 j] using this
    have key : ∀ (v : Value) (C' : World → Prop), wpReg P ops S E F l (k + 1) C' (a.put o.dst v) →
        (if Region.wanted o (yielded ops a.tmps) then
          ((S.elem k = false ∧ C' = C ∧ ∀ D : World → Prop, ∀ w, D w → E w → o.wp P a w (regK (a.put o.dst v) D) (fun _ _ _ => False)) ∨
           (rd ops S k = true ∧ (C' = C ∨ (k ∈ S ∧ ∀ w, C' w → E w)) ∧ ∀ w, C w → o.wp P a w (regK (a.put o.dst v) C') (fun _ _ _ => False)))
        else C' = C ∧ v = undef) →
        ∃ (A : Nat → Act) (Cs : Nat → World → Prop) (vals : Nat → Value), A k = a ∧ Cs k = C ∧ F (Cs (k + (o :: l).length)) (A (k + (o :: l).length)) ∧
          ∀ i, k ≤ i → i < k + (o :: l).length → ∀ o', ops[i]? = some o' → A (i + 1) = (A i).put o'.dst (vals i) ∧
            if Region.wanted o' (yielded ops (A i).tmps) then
              ((S.elem i = false ∧ Cs (i + 1) = Cs i ∧ ∀ D : World → Prop, ∀ w, D w → E w → o'.wp P (A i) w (regK ((A i).put o'.dst (vals i)) D) (fun _ _ _ => False)) ∨
               (rd ops S i = true ∧ (Cs (i + 1) = Cs i ∨ (i ∈ S ∧ ∀ w, Cs (i + 1) w → E w)) ∧ ∀ w, Cs i w → o'.wp P (A i) w (regK ((A i).put o'.dst (vals i)) (Cs (i + 1))) (fun _ _ _ => False)))
            else Cs (i + 1) = Cs i ∧ vals i = undef := by
      intro v C' hr hf
      obtain ⟨A, Cs, vals, hA, hC, hF, hs⟩ := facts_of_wpReg l (k + 1) C' _ hl' hr
      refine ⟨fun i => if i = k then a else A i, fun i => if i = k then C else Cs i, fun i => if i = k then v else vals i, by simp, by simp, ?_, ?_⟩
      · have e : k + (o :: l).length = k + 1 + l.length := by simp; omega
        have hne : ¬ (k + 1 + l.length = k) := by omega
        simp only [e, hne, if_false]; exact hF
      · intro i h1 h2 o' ho'
        by_cases hik : i = k
        · subst hik
          obtain rfl : o = o' := Option.some.inj (h0.symm.trans ho')
          have hne : ¬ (i + 1 = i) := by omega
          simp only [hne, if_false, if_true, hA, hC]
          exact ⟨trivial, hf⟩
        · have hne : ¬ (i + 1 = k) := by omega
          simp only [hik, hne, if_false]
          exact hs i (by omega) (by simp at h2; omega) o' ho'
    unfold wpReg at h
    by_cases hw : Region.wanted o (yielded ops a.tmps) = true
    · rw [if_pos hw] at h
      obtain ⟨v, C', hr, hf⟩ := h
      exact key v C' hr (by rw [if_pos hw]; exact hf)
    · rw [if_neg hw] at h
      exact key undef C h (by rw [if_neg hw]; exact ⟨rfl, rfl⟩)

/-- what has come up is closed under what it waits for -/
def Closed (ops : Array Oper) (L : Array Bool) : Prop := L.size = ops.size ∧ ∀ j oj, ops[j]? = some oj → L.getD j false = true → ∀ e ∈ oj.after, Region.binds .any e = true → L.getD e.on false = true

theorem anc_listed {L : Array Bool} (hc : Closed ops L) : ∀ (f k j : Nat), anc ops f k j = true → (∃ o, ops[k]? = some o ∧ ∀ e ∈ o.after, Region.binds .any e = true → L.getD e.on false = true) → L.getD j false = true
  | 0, _, _, h, _ => by simp [anc] at h
  | f + 1, k, j, h, ⟨o, ho, hall⟩ => by
    simp only [anc, ho] at h
    obtain ⟨e, he, hb⟩ := List.any_eq_true.1 h
    simp only [Bool.and_eq_true, Bool.or_eq_true, beq_iff_eq] at hb
    have hl := hall e (by simpa using he) hb.1
    rcases hb.2 with h1 | h1
    · rw [← h1]; exact hl
    · refine anc_listed hc f e.on j h1 ?_
      have hlt : e.on < ops.size := by
        rw [← hc.1]
        rcases Nat.lt_or_ge e.on L.size with h' | h'
        · exact h'
        · simp [Array.getElem?_eq_none h'] at hl
      exact ⟨ops[e.on], by simp [hlt], fun e' he' hb' => hc.2 e.on _ (by simp [hlt]) hl e' he' hb'⟩
theorem anc_of_listed {L : Array Bool} (hc : Closed ops L) {f k j : Nat} (h : anc ops f k j = true) (hk : L.getD k false = true) : L.getD j false = true := by
  refine anc_listed hc f k j h ?_
  have hlt : k < ops.size := by
    rw [← hc.1]
    rcases Nat.lt_or_ge k L.size with h' | h'
    · exact h'
    · simp [Array.getElem?_eq_none h'] at hk
  exact ⟨ops[k], by simp [hlt], fun e' he' hb' => hc.2 k _ (by simp [hlt]) hk e' he' hb'⟩

/-- the frame when L has come up -/
structure Rel (ops : Array Oper) (a0 : Act) (vals : Nat → Value) (L : Nat → Bool) (a : Act) : Prop where
  defers : a.defers = a0.defers
  size : a.tmps.size = a0.tmps.size
  put : ∀ j d, L j = true → (ops[j]?).bind (·.dst) = some d → d < a0.tmps.size → a.tmps[d]? = some (vals j)
  rest : ∀ t, (∀ j, L j = true → (ops[j]?).bind (·.dst) ≠ some t) → a.tmps[t]? = a0.tmps[t]?

theorem Rel.start (a0 : Act) (vals : Nat → Value) : Rel ops a0 vals (fun _ => false) a0 := ⟨rfl, rfl, fun _ _ h => (by cases h), fun _ _ => rfl⟩

theorem dsts_spec (h : dstsB ops = true) {i j : Nat} {d : Tmp} (hi : (ops[i]?).bind (·.dst) = some d) (hj : (ops[j]?).bind (·.dst) = some d) : i = j := by
  have lt : ∀ {k : Nat}, (ops[k]?).bind (·.dst) = some d → k < ops.size := fun {k} hk => by
    rcases Nat.lt_or_ge k ops.size with h' | h'
    · exact h'
    · simp [Array.getElem?_eq_none h'] at hk
  have h1 := List.all_eq_true.1 h i (by simpa using lt hi)
  have h2 := List.all_eq_true.1 h1 j (by simpa using lt hj)
  simp [hi, hj] at h2
  exact h2

theorem Rel.step {a0 a : Act} {vals : Nat → Value} {L : Nat → Bool} (h : Rel ops a0 vals L a) (hd : dstsB ops = true) {i : Nat} {o : Oper} (ho : ops[i]? = some o) (L' : Nat → Bool) (hL' : ∀ j, L' j = (L j || j == i)) :
    Rel ops a0 vals L' (a.put o.dst (vals i)) := by
  have hdi : (ops[i]?).bind (·.dst) = o.dst := by rw [ho]; rfl
  cases hod : o.dst with
  | none =>
    refine ⟨h.defers, h.size, fun j d hj hjd hlt => ?_, fun t ht => h.rest t fun j hj => ht j (by rw [hL']; simp [hj])⟩
    rw [hL'] at hj
    simp only [Bool.or_eq_true, beq_iff_eq] at hj
    rcases hj with hj | rfl
    · exact h.put j d hj hjd hlt
    · rw [hdi, hod] at hjd; cases hjd
  | some d0 =>
    refine ⟨h.defers, by simp [Act.put, h.size], fun j d hj hjd hlt => ?_, fun t ht => ?_⟩
    · rw [hL'] at hj
      simp only [Bool.or_eq_true, beq_iff_eq] at hj
      by_cases hdd : d0 = d
      · subst hdd
        obtain rfl := dsts_spec hd hjd (hdi.trans hod)
        have : d0 < a.tmps.size := by rw [h.size]; exact hlt
        simp [Act.put, this]
      · rcases hj with hj | rfl
        · simp only [Act.put, Array.getElem?_setIfInBounds_ne hdd]; exact h.put j d hj hjd hlt
        · rw [hdi, hod] at hjd; exact absurd (Option.some.inj hjd) hdd
    · have hne : d0 ≠ t := fun e => ht i (by rw [hL']; simp) (by rw [hdi, hod, e])
      simp only [Act.put, Array.getElem?_setIfInBounds_ne hne]
      exact h.rest t fun j hj => ht j (by rw [hL']; simp [hj])

theorem Rel.ext {a0 a b : Act} {vals : Nat → Value} {L : Nat → Bool} (h : Rel ops a0 vals L a) (h' : Rel ops a0 vals L b) : a = b := by
  have hs : a.tmps = b.tmps := by
    apply Array.ext_getElem?
    intro t
    by_cases ht : ∃ j, L j = true ∧ (ops[j]?).bind (·.dst) = some t
    · obtain ⟨j, hj, hd⟩ := ht
      rcases Nat.lt_or_ge t a0.tmps.size with hlt | hlt
      · rw [h.put j t hj hd hlt, h'.put j t hj hd hlt]
      · rw [Array.getElem?_eq_none (by rw [h.size]; exact hlt), Array.getElem?_eq_none (by rw [h'.size]; exact hlt)]
    · have hn : ∀ j, L j = true → (ops[j]?).bind (·.dst) ≠ some t := fun j hj hd => ht ⟨j, hj, hd⟩
      rw [h.rest t hn, h'.rest t hn]
  cases a; cases b
  have h1 := h.defers
  have h2 := h'.defers
  simp only at hs h1 h2
  subst hs h1
  rw [h2]

/-- a slot that is looked at by k holds the same in every frame in which k may come up -/
theorem Rel.look {a0 a b : Act} {vals : Nat → Value} {L L' : Nat → Bool} (h : Rel ops a0 vals L a) (h' : Rel ops a0 vals L' b) {t : Tmp}
    (hk : ∀ j : Nat, (ops[j]?).bind Oper.dst = some t → L j = true ∧ L' j = true) : a.tmps.getD t undef = b.tmps.getD t undef := by
  have : a.tmps[t]? = b.tmps[t]? := by
    by_cases ht : ∃ j : Nat, (ops[j]?).bind Oper.dst = some t
    · obtain ⟨j, hd⟩ := ht
      obtain ⟨h1, h2⟩ := hk j hd
      rcases Nat.lt_or_ge t a0.tmps.size with hlt | hlt
      · rw [h.put j t h1 hd hlt, h'.put j t h2 hd hlt]
      · rw [Array.getElem?_eq_none (by rw [h.size]; exact hlt), Array.getElem?_eq_none (by rw [h'.size]; exact hlt)]
    · have hn : ∀ j : Nat, (ops[j]?).bind Oper.dst ≠ some t := fun j hd => ht ⟨j, hd⟩
      rw [h.rest t fun j _ => hn j, h'.rest t fun j _ => hn j]
  simp only [Array.getD_eq_getD_getElem?, this]

theorem cs_const {S : List Nat} {Cs : Nat → World → Prop} {n : Nat} (hs : ∀ i, i < n → S.elem i = false → Cs (i + 1) = Cs i) : ∀ (d i : Nat), i + d ≤ n → (∀ s ∈ S, s < n → ¬ (i ≤ s ∧ s < i + d)) → Cs (i + d) = Cs i
  | 0, _, _, _ => rfl
  | d + 1, i, hl, hn => by
    have h1 := cs_const hs d i (by omega) (fun s hs' hsn hh => hn s hs' hsn (by omega))
    have h2 := hs (i + d) (by omega) (by
      cases hc : S.elem (i + d)
      · rfl
      · exact absurd ⟨by omega, by omega⟩ (hn (i + d) (by simpa using hc) (by omega)))
    rw [show i + (d + 1) = i + d + 1 from rfl, h2, h1]
theorem cs_same {S : List Nat} {Cs : Nat → World → Prop} {n : Nat} (hs : ∀ i, i < n → S.elem i = false → Cs (i + 1) = Cs i) {i k : Nat} (hi : i ≤ n) (hk : k ≤ n) (h : ∀ s ∈ S, s < n → (s < i ↔ s < k)) : Cs i = Cs k := by
  rcases Nat.le_total i k with hik | hik
  · have := cs_const hs (k - i) i (by omega) (fun s hs' hsn hh => by have := h s hs' hsn; omega)
    rw [← this]; congr 1; omega
  · have := cs_const hs (i - k) k (by omega) (fun s hs' hsn hh => by have := h s hs' hsn; omega)
    rw [← this]; congr 1; omega

theorem getD_lt {L : Array Bool} {j : Nat} (h : L.getD j false = true) : j < L.size := by
  rcases Nat.lt_or_ge j L.size with h' | h'
  · exact h'
  · simp [Array.getElem?_eq_none h'] at h
theorem getD_bools {L : Array Bool} {j : Nat} (hj : j < L.size) : L.getD j true = L.getD j false := by simp [hj]

theorem reg_sound {S : List Nat} {E : World → Prop} {Q : Exit → Act → World → Prop} (hB : okReg ops S = true) {a0 : Act} {A : Nat → Act} {Cs : Nat → World → Prop} {vals : Nat → Value} (hA0 : A 0 = a0) (hE0 : ∀ w, Cs 0 w → E w)
    (hend : ∀ w, Cs ops.size w → Q .normal (A ops.size) w)
    (hf : ∀ i, i < ops.size → ∀ o, ops[i]? = some o → A (i + 1) = (A i).put o.dst (vals i) ∧
        if Region.wanted o (yielded ops (A i).tmps) then
          ((S.elem i = false ∧ Cs (i + 1) = Cs i ∧ ∀ D : World → Prop, ∀ w, D w → E w → o.wp P (A i) w (regK ((A i).put o.dst (vals i)) D) (fun _ _ _ => False)) ∨
           (rd ops S i = true ∧ (Cs (i + 1) = Cs i ∨ (i ∈ S ∧ ∀ w, Cs (i + 1) w → E w)) ∧ ∀ w, Cs i w → o.wp P (A i) w (regK ((A i).put o.dst (vals i)) (Cs (i + 1))) (fun _ _ _ => False)))
        else Cs (i + 1) = Cs i ∧ vals i = undef) :
    ∀ (fuel : Nat) (L : Array Bool) (a : Act) (w : World) (k : Nat), ((List.range ops.size).filter fun j => !L.getD j false).length = fuel → Closed ops L → Rel ops a0 vals (fun j => L.getD j false) a →
      k ≤ ops.size → (∀ s ∈ S, s < ops.size → (L.getD s false = true ↔ s < k)) → Cs k w → wpAny P .any ops Q fuel L a w := by
  simp only [okReg, Bool.and_eq_true] at hB
  obtain ⟨⟨⟨hsel, hd⟩, hSrd⟩, hlk⟩ := hB
  have hops : ∀ {i : Nat} {o : Oper}, ops[i]? = some o → i < ops.size ∧ (∀ e ∈ o.after, Region.binds .any e = true → e.on < i) ∧ looksB ops i o = true := by
    intro i o ho
    have hi : i < ops.size := (Array.getElem?_eq_some_iff.1 ho).1
    have h1 := List.all_eq_true.1 hlk i (by simpa using hi)
    simp only [ho, Bool.and_eq_true] at h1
    refine ⟨hi, fun e he hb => ?_, h1.2⟩
    have := Array.all_eq_true_iff_forall_mem.1 h1.1 e he
    simpa [hb] using this
  have hsame : ∀ i, i < ops.size → S.elem i = false → Cs (i + 1) = Cs i := by
    intro i hi hS
    obtain ⟨_, h2⟩ := hf i hi ops[i] (by simp [hi])
    split at h2
    · rcases h2 with h2 | h2
      · exact h2.2.1
      · rcases h2.2.1 with h3 | h3
        · exact h3
        · have : S.elem i = true := by simpa using h3.1
          rw [this] at hS; cases hS
    · exact h2.1
  have hE : ∀ k, k ≤ ops.size → ∀ w, Cs k w → E w := by
    intro k
    induction k with
    | zero => intro _; exact hE0
    | succ k ih =>
      intro hk w hw
      obtain ⟨_, h2⟩ := hf k (by omega) ops[k] (by simp [show k < ops.size by omega])
      split at h2
      · rcases h2 with h2 | h2
        · rw [h2.2.1] at hw; exact ih (by omega) w hw
        · rcases h2.2.1 with h3 | h3
          · rw [h3] at hw; exact ih (by omega) w hw
          · exact h3.2 w hw
      · rw [h2.1] at hw; exact ih (by omega) w hw
  have hlex : ∀ k, k ≤ ops.size → Rel ops a0 vals (fun j => decide (j < k)) (A k) := by
    intro k
    induction k with
    | zero => intro _; rw [hA0]; simpa using Rel.start (ops := ops) a0 vals
    | succ k ih =>
      intro hk
      have ho : ops[k]? = some ops[k] := by simp [show k < ops.size by omega]
      rw [(hf k (by omega) _ ho).1]
      exact (ih (by omega)).step hd ho _ (fun j => by rw [Bool.eq_iff_iff]; simp; omega)
  have done : ∀ (L : Array Bool) (a : Act) (w : World) (k : Nat), Closed ops L → Rel ops a0 vals (fun j => L.getD j false) a → k ≤ ops.size → (∀ s ∈ S, s < ops.size → (L.getD s false = true ↔ s < k)) → Cs k w →
      Region.ready .any ops L = [] → Q .normal a w := by
    intro L a w k hc hr hk hS hC hre
    have all : ∀ j, j < ops.size → L.getD j false = true := by
      intro j
      induction j using Nat.strongRecOn with
      | _ j ih =>
        intro hj
        cases hL : L.getD j false
        · have ho : ops[j]? = some ops[j] := by simp [hj]
          have : j ∈ Region.ready .any ops L := mem_ready.2 ⟨by rw [getD_bools (by rw [hc.1]; exact hj)]; exact hL, ops[j], ho, fun e he hb => by
            have := (hops ho).2.1 e he hb
            exact ih e.on this (by omega)⟩
          rw [hre] at this; cases this
        · rfl
    have e : (fun j => L.getD j false) = (fun j => decide (j < ops.size)) := by
      funext j
      by_cases hj : j < ops.size
      · rw [all j hj]; simp [hj]
      · cases hL : L.getD j false
        · simp [hj]
        · exact absurd (by rw [← hc.1]; exact getD_lt hL) hj
    rw [e] at hr
    have hae := hr.ext (hlex _ (Nat.le_refl _))
    have hCe : Cs k = Cs ops.size := cs_same hsame hk (Nat.le_refl _) (fun s hs hsn => by have := hS s hs hsn; rw [all s hsn] at this; simp at this; omega)
    rw [hae]
    exact hend w (hCe ▸ hC)
  intro fuel
  induction fuel with
  | zero =>
    intro L a w k hcnt hc hr hk hS hC
    have hre : Region.ready .any ops L = [] := by
      rw [List.eq_nil_iff_forall_not_mem]
      intro j hj
      obtain ⟨h1, o, ho, _⟩ := mem_ready.1 hj
      have hj' := (hops ho).1
      have : j ∈ (List.range ops.size).filter fun j => !L.getD j false := by
        rw [List.mem_filter]
        refine ⟨by simpa using hj', ?_⟩
        rw [getD_bools (by rw [hc.1]; exact hj')] at h1
        simp [h1]
      rw [List.eq_nil_of_length_eq_zero hcnt] at this
      cases this
    exact ⟨hre, done L a w k hc hr hk hS hC hre⟩
  | succ fuel ih =>
    intro L a w k hcnt hc hr hk hS hC
    refine ⟨fun hre => done L a w k hc hr hk hS hC hre, fun i hi => ?_⟩
    obtain ⟨hun, o, ho, hall⟩ := mem_ready.1 hi
    obtain ⟨hilt, hback, hlook⟩ := hops ho
    have hLs : i < L.size := by rw [hc.1]; exact hilt
    have hun' : L.getD i false = false := by rw [← getD_bools hLs]; exact hun
    have hget : ∀ j, (L.setIfInBounds i true).getD j false = (L.getD j false || j == i) := by
      intro j
      by_cases hji : i = j
      · subst hji; simp [hLs]
      · rw [getD_set_ne false hji]
        have : (j == i) = false := by simpa using fun h => hji h.symm
        rw [this]; simp
    have hc' : Closed ops (L.setIfInBounds i true) := by
      refine ⟨by simpa using hc.1, fun j oj hoj hj e he hb => ?_⟩
      rw [hget] at hj ⊢
      simp only [Bool.or_eq_true, beq_iff_eq] at hj
      rcases hj with hj | rfl
      · rw [hc.2 j oj hoj hj e he hb]; rfl
      · obtain rfl := Option.some.inj (ho.symm.trans hoj)
        rw [hall e he hb]; rfl
    have hcnt' : ((List.range ops.size).filter fun j => !(L.setIfInBounds i true).getD j false).length = fuel := by
      have e : ((List.range ops.size).filter fun j => !(L.setIfInBounds i true).getD j false) = ((List.range ops.size).filter fun j => !L.getD j false).erase i := by
        rw [List.Nodup.erase_eq_filter (List.nodup_range.filter _), List.filter_filter]
        apply List.filter_congr
        intro j _
        rw [hget]
        by_cases hji : j = i
        · simp [hji]
        · have h1 : (j == i) = false := by simpa using hji
          have h2 : (j != i) = true := by simpa using hji
          rw [h1, h2]; simp
      rw [e, List.length_erase_of_mem (by rw [List.mem_filter]; exact ⟨by simpa using hilt, by simp [hun']⟩), hcnt]
      rfl
    have hanc : ∀ j, anc ops ops.size i j = true → L.getD j false = true := fun j h => anc_listed hc _ _ _ h ⟨o, ho, hall⟩
    have hrel : Rel ops a0 vals (fun j => (L.setIfInBounds i true).getD j false) (a.put o.dst (vals i)) := hr.step hd ho _ (fun j => hget j)
    obtain ⟨hstep, hfi⟩ := hf i hilt o ho
    -- the slots that it looks at
    have hslot : ∀ t ∈ o.looksAt ops, a.tmps.getD t undef = (A i).tmps.getD t undef := by
      intro t ht
      refine hr.look (hlex i (by omega)) (t := t) fun j hj => ?_
      have h1 := List.all_eq_true.1 hlook t ht
      have hjlt : j < ops.size := by
        rcases Nat.lt_or_ge j ops.size with h' | h'
        · exact h'
        · simp [Array.getElem?_eq_none h'] at hj
      have h2 := List.all_eq_true.1 h1 j (by simpa using hjlt)
      simp only [hj, beq_self_eq_true, Bool.not_true, Bool.false_or, Bool.and_eq_true, decide_eq_true_eq] at h2
      exact ⟨hanc j h2.2, by simpa using h2.1⟩
    have hex : execOp a.eval o = execOp (A i).eval o := by
      refine execOp_congr o (fun cs b => Region.noSelect_spec hsel i o cs b ho) fun x hx => ?_
      cases x with
      | tmp t => exact hslot t (by simp only [Oper.looksAt, List.mem_append, List.mem_filterMap]; exact .inl ⟨.tmp t, by simpa using hx, rfl⟩)
      | _ => rfl
    have hwant : Region.wanted o (yielded ops a.tmps) = Region.wanted o (yielded ops (A i).tmps) := by
      unfold Region.wanted
      cases hg : o.guard with
      | none => rfl
      | some g =>
        obtain ⟨j, wv⟩ := g
        simp only
        unfold yielded
        cases hdj : (ops[j]?).bind (·.dst) with
        | none => rfl
        | some t =>
          have hs := hslot t (by simp only [Oper.looksAt, List.mem_append]; right; simp [hg, hdj])
          have hsz : a.tmps.size = (A i).tmps.size := by rw [hr.size, (hlex i (by omega)).size]
          have : a.tmps[t]? = (A i).tmps[t]? := by
            rcases Nat.lt_or_ge t a.tmps.size with hlt | hlt
            · have hlt' : t < (A i).tmps.size := by rw [← hsz]; exact hlt
              simp only [Array.getD_eq_getD_getElem?, hlt, hlt', Array.getElem?_eq_getElem, Option.getD_some] at hs
              simp only [hlt, hlt', Array.getElem?_eq_getElem, hs]
            · rw [Array.getElem?_eq_none hlt, Array.getElem?_eq_none (by rw [← hsz]; exact hlt)]
          simp only [Option.bind_some, this]
    have hsz : a.tmps.size = (A i).tmps.size := by rw [hr.size, (hlex i (by omega)).size]
    -- the place among the writers
    have place : rd ops S i = true → (∀ s ∈ S, s < ops.size → (L.getD s false = true ↔ s < i)) := by
      intro hrd s hs hsn
      have h1 := List.all_eq_true.1 hrd s hs
      simp only [Bool.or_eq_true, beq_iff_eq] at h1
      rcases h1 with rfl | h1
      · rw [hun']; simp
      · unfold ordered at h1
        split at h1
        · rename_i hlt
          rw [hanc s h1]; simpa using hlt
        · rename_i hge
          constructor
          · intro hsl
            rw [anc_of_listed hc h1 hsl] at hun'; cases hun'
          · intro h; omega
    have hC' : rd ops S i = true → Cs i w := fun hrd => by
      have := cs_same hsame (show i ≤ ops.size by omega) hk (fun s hs hsn => ((place hrd s hs hsn).symm.trans (hS s hs hsn)))
      rw [this]; exact hC
    have keepS : S.elem i = false → ∀ s ∈ S, s < ops.size → ((L.setIfInBounds i true).getD s false = true ↔ s < k) := by
      intro hSi s hs hsn
      rw [hget]
      have : (s == i) = false := by
        cases hsi : (s == i)
        · rfl
        · have : s = i := by simpa using hsi
          subst this
          have : S.elem s = true := by simpa using hs
          rw [this] at hSi; cases hSi
      rw [this, Bool.or_false]; exact hS s hs hsn
    have nextS : i ∈ S → ∀ s ∈ S, s < ops.size → ((L.setIfInBounds i true).getD s false = true ↔ s < i + 1) := by
      intro hiS s hs hsn
      have hrd := List.all_eq_true.1 hSrd i hiS
      rw [hget]
      have := place hrd s hs hsn
      by_cases hsi : s = i
      · subst hsi; simp
      · have e : (s == i) = false := by simpa using hsi
        rw [e, Bool.or_false, this]; omega
    unfold wpOp
    simp only [ho]
    rw [hwant]
    by_cases hw : Region.wanted o (yielded ops (A i).tmps) = true
    · rw [if_pos hw] at hfi ⊢
      left
      rcases hfi with ⟨hSi, hCe, hany⟩ | ⟨hrd, hcs, hrun⟩
      · refine wp_transfer hex hsz (hany (Cs k) w hC (hE k hk w hC)) fun w' hw' => ?_
        exact ih _ _ w' k hcnt' hc' hrel hk (keepS hSi) hw'
      · refine wp_transfer hex hsz (hrun w (hC' hrd)) fun w' hw' => ?_
        by_cases hiS : i ∈ S
        · exact ih _ _ w' (i + 1) hcnt' hc' hrel (by omega) (nextS hiS) hw'
        · have hSi : S.elem i = false := by
            cases h : S.elem i
            · rfl
            · exact absurd (by simpa using h) hiS
          have hce := cs_same hsame (show i ≤ ops.size by omega) hk (fun s hs hsn => ((place hrd s hs hsn).symm.trans (hS s hs hsn)))
          exact ih _ _ w' k hcnt' hc' hrel hk (keepS hSi) (by rw [← hce, ← hsame i hilt hSi]; exact hw')
    · rw [if_neg hw] at hfi ⊢
      rw [hfi.2] at hrel
      by_cases hiS : i ∈ S
      · have hrd := List.all_eq_true.1 hSrd i hiS
        exact ih _ _ w (i + 1) hcnt' hc' hrel (by omega) (nextS hiS) (by rw [hfi.1]; exact hC' hrd)
      · have hSi : S.elem i = false := by
          cases h : S.elem i
          · rfl
          · exact absurd (by simpa using h) hiS
        exact ih _ _ w k hcnt' hc' hrel hk (keepS hSi) hC

/-- A REGION THAT DRAWS ITS ORDER, BY ONE WALK. S: the places of its writers. -/
theorem wp_region_reg {id : Nat} {l : List Oper} {Q : Exit → Act → World → Prop} {a : Act} {w : World} {C : World → Prop} (S : List Nat) (E : World → Prop) (hC : C w.drew) (hE : ∀ w, C w → E w) (hm : P.follows .mixedOrders = true) (hB : okReg l.toArray S = true)
    (h : wpReg P l.toArray S E (fun C a => ∀ w, C w → Q .normal a w) l 0 C a) : (Code.region id l.toArray true).wp P Q a w := by
  refine wp_region_any hm ?_
  obtain ⟨A, Cs, vals, hA, hCs, hF, hs⟩ := facts_of_wpReg (ops := l.toArray) l 0 C a (fun j => by simp) h
  have hn : 0 + l.length = l.toArray.size := by simp
  rw [hn] at hF
  refine reg_sound hB hA (hCs.symm ▸ hE) (fun w hw => hF w hw) (fun i hi o ho => hs i (by omega) (by simpa using hi) o ho) _ _ a _ 0 ?_ ⟨by simp, fun j oj _ hj => ?_⟩ ?_ (by omega) (fun s _ _ => ?_) (by rw [hCs]; exact hC)
  · have : ∀ j, (Array.replicate l.toArray.size false).getD j false = false := getD_replicate_false _
    simp only [this]
    rw [List.filter_eq_self.2 (by simp)]; simp
  · rw [getD_replicate_false] at hj; cases hj
  · have : (fun j => (Array.replicate l.toArray.size false).getD j false) = fun _ => false := funext (getD_replicate_false _)
    rw [this]; exact Rel.start a vals
  · rw [getD_replicate_false]; simp

section
variable {S : List Nat} {E : World → Prop} {F : (World → Prop) → Act → Prop} {rest : List Oper} {k : Nat} {C : World → Prop} {a A' : Act} {dst : Option Tmp} {op : Op} {ty : TypeId} {pos : String} {af : Array Edge} {g : Option (Nat × Bool)}

theorem wpReg_nil (h : F C a) : wpReg P ops S E F [] k C a := h
theorem wpReg_skip (hw : Region.wanted ⟨dst, op, ty, pos, af, g⟩ (yielded ops a.tmps) = false) (h : wpReg P ops S E F rest (k + 1) C (a.put dst undef)) : wpReg P ops S E F (⟨dst, op, ty, pos, af, g⟩ :: rest) k C a := by
  unfold wpReg
  rw [if_neg (by rw [hw]; exact Bool.false_ne_true)]
  exact h
theorem wp_unguard {w : World} {D : World → Prop} (h : wpList P ops (regPost A' D) [⟨dst, op, ty, pos, af, none⟩] a w) : Oper.wp P ⟨dst, op, ty, pos, af, g⟩ a w (regK A' D) (fun _ _ _ => False) := by
  have h1 := wp_of_one (by simp [Region.wanted]) h
  unfold Oper.wp at h1 ⊢
  have e : execOp a.eval ⟨dst, op, ty, pos, af, g⟩ = execOp a.eval ⟨dst, op, ty, pos, af, none⟩ := rfl
  rw [e]
  generalize (execOp a.eval ⟨dst, op, ty, pos, af, none⟩).run P w = r at h1 ⊢
  cases r with
  | ok n w' => cases n <;> exact h1
  | halt x w' => cases x <;> exact h1
theorem wpReg_read (hw : Region.wanted ⟨dst, op, ty, pos, af, g⟩ (yielded ops a.tmps) = true) (hrd : rd ops S k = true) (h : ∀ w, C w → wpList P ops (regPost A' C) [⟨dst, op, ty, pos, af, none⟩] a w) (hA : ∃ v, A' = a.put dst v)
    (hr : wpReg P ops S E F rest (k + 1) C A') : wpReg P ops S E F (⟨dst, op, ty, pos, af, g⟩ :: rest) k C a := by
  obtain ⟨v, rfl⟩ := hA
  unfold wpReg
  rw [if_pos hw]
  exact ⟨v, C, hr, .inr ⟨hrd, .inl rfl, fun w hw => wp_unguard (h w hw)⟩⟩
theorem wpReg_pure (hw : Region.wanted ⟨dst, op, ty, pos, af, g⟩ (yielded ops a.tmps) = true) (hS : S.elem k = false) (h : ∀ (D : World → Prop) w, D w → E w → wpList P ops (regPost A' D) [⟨dst, op, ty, pos, af, none⟩] a w) (hA : ∃ v, A' = a.put dst v)
    (hr : wpReg P ops S E F rest (k + 1) C A') : wpReg P ops S E F (⟨dst, op, ty, pos, af, g⟩ :: rest) k C a := by
  obtain ⟨v, rfl⟩ := hA
  unfold wpReg
  rw [if_pos hw]
  exact ⟨v, C, hr, .inl ⟨hS, rfl, fun D w hw hE => wp_unguard (h D w hw hE)⟩⟩
theorem wpReg_store {C' : World → Prop} (hw : Region.wanted ⟨dst, op, ty, pos, af, g⟩ (yielded ops a.tmps) = true) (hkS : S.elem k = true) (hrd : rd ops S k = true) (h : ∀ w, C w → wpList P ops (regPost A' C') [⟨dst, op, ty, pos, af, none⟩] a w) (hA : ∃ v, A' = a.put dst v)
    (hCE : ∀ w, C' w → E w) (hr : wpReg P ops S E F rest (k + 1) C' A') : wpReg P ops S E F (⟨dst, op, ty, pos, af, g⟩ :: rest) k C a := by
  obtain ⟨v, rfl⟩ := hA
  unfold wpReg
  rw [if_pos hw]
  exact ⟨v, C', hr, .inr ⟨hrd, .inr ⟨by simpa using hkS, hCE⟩, fun w hw => wp_unguard (h w hw)⟩⟩
end
end
theorem inv_list {T : List Nat} {w0 w : World} {m : List Res} (_ : Inv T w0 w m) : ∃ mE, mE = m := ⟨m, rfl⟩
end Go.Proofs.Ytaeapoidigglnaa
