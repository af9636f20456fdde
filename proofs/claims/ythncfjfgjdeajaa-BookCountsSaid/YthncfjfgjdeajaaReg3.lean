/-
  A region that draws its order, where a slot is read ahead of the one operation that writes it. No condition.
-/
import Derived.Test.YthncfjfgjdeajaaReg
namespace Go.Proofs.Ythncfjfgjdeajaa
open Go.RowKit
section
variable {P : Program} {ops : Array Oper}
def looksB3 (ops : Array Oper) (k : Nat) (o : Oper) : Bool := (o.looksAt ops).all fun t => (List.range ops.size).all fun j =>
  !((ops[j]?).bind (·.dst) == some t) || ((decide (j < k) && anc ops ops.size k j) || (decide (k < j) && anc ops ops.size j k))
def okReg3 (ops : Array Oper) (S : List Nat) : Bool := Region.noSelect ops && dstsB ops && S.all (rd ops S) &&
  (List.range ops.size).all fun k => match ops[k]? with
    | none => true
    | some o => (o.after.all fun e => !Region.binds .any e || decide (e.on < k)) && looksB3 ops k o
theorem Rel.look3 {a0 a b : Act} {vals : Nat → Value} {L L' : Nat → Bool} (h : Rel ops a0 vals L a) (h' : Rel ops a0 vals L' b) (hd : dstsB ops = true) {t : Tmp}
    (hk : ∀ j : Nat, (ops[j]?).bind Oper.dst = some t → (L j = true ∧ L' j = true) ∨ (L j = false ∧ L' j = false)) : a.tmps.getD t undef = b.tmps.getD t undef := by
  have : a.tmps[t]? = b.tmps[t]? := by
    by_cases ht : ∃ j : Nat, (ops[j]?).bind Oper.dst = some t
    · obtain ⟨j, hj⟩ := ht
      rcases hk j hj with ⟨h1, h2⟩ | ⟨h1, h2⟩
      · rcases Nat.lt_or_ge t a0.tmps.size with hlt | hlt
        · rw [h.put j t h1 hj hlt, h'.put j t h2 hj hlt]
        · rw [Array.getElem?_eq_none (by rw [h.size]; exact hlt), Array.getElem?_eq_none (by rw [h'.size]; exact hlt)]
      · have e1 : ∀ q, L q = true → (ops[q]?).bind (·.dst) ≠ some t := fun q hq he => by
          obtain rfl := dsts_spec hd hj he
          rw [h1] at hq; cases hq
        have e2 : ∀ q, L' q = true → (ops[q]?).bind (·.dst) ≠ some t := fun q hq he => by
          obtain rfl := dsts_spec hd hj he
          rw [h2] at hq; cases hq
        rw [h.rest t e1, h'.rest t e2]
    · have hn : ∀ j : Nat, (ops[j]?).bind Oper.dst ≠ some t := fun j hd => ht ⟨j, hd⟩
      rw [h.rest t fun j _ => hn j, h'.rest t fun j _ => hn j]
  simp only [Array.getD_eq_getD_getElem?, this]
theorem reg_sound3 {S : List Nat} {E : World → Prop} {Q : Exit → Act → World → Prop} (hB : okReg3 ops S = true) {a0 : Act} {A : Nat → Act} {Cs : Nat → World → Prop} {vals : Nat → Value} (hA0 : A 0 = a0) (hE0 : ∀ w, Cs 0 w → E w)
    (hend : ∀ w, Cs ops.size w → Q .normal (A ops.size) w)
    (hf : ∀ i, i < ops.size → ∀ o, ops[i]? = some o → A (i + 1) = (A i).put o.dst (vals i) ∧
        if Region.wanted o (yielded ops (A i).tmps) then
          ((S.elem i = false ∧ Cs (i + 1) = Cs i ∧ ∀ D : World → Prop, ∀ w, D w → E w → o.wp P (A i) w (regK ((A i).put o.dst (vals i)) D) (fun _ _ _ => False)) ∨
           (rd ops S i = true ∧ (Cs (i + 1) = Cs i ∨ (i ∈ S ∧ ∀ w, Cs (i + 1) w → E w)) ∧ ∀ w, Cs i w → o.wp P (A i) w (regK ((A i).put o.dst (vals i)) (Cs (i + 1))) (fun _ _ _ => False)))
        else Cs (i + 1) = Cs i ∧ vals i = undef) :
    ∀ (fuel : Nat) (L : Array Bool) (a : Act) (w : World) (k : Nat), ((List.range ops.size).filter fun j => !L.getD j false).length = fuel → Closed ops L → Rel ops a0 vals (fun j => L.getD j false) a →
      k ≤ ops.size → (∀ s ∈ S, s < ops.size → (L.getD s false = true ↔ s < k)) → Cs k w → wpAny P .any ops Q fuel L a w := by
  simp only [okReg3, Bool.and_eq_true] at hB
  obtain ⟨⟨⟨hsel, hd⟩, hSrd⟩, hlk⟩ := hB
  have hops : ∀ {i : Nat} {o : Oper}, ops[i]? = some o → i < ops.size ∧ (∀ e ∈ o.after, Region.binds .any e = true → e.on < i) ∧ looksB3 ops i o = true := by
    intro i o ho
    have hi : i < ops.size := (Array.getElem?_eq_some_iff.1 ho).1
    have h1 := List.all_eq_true.1 hlk i (by simpa using hi)
    simp only [ho, Bool.and_eq_true] at h1
    refine ⟨hi, fun e he hb => ?_, h1.2⟩
    have := Array.all_eq_true_iff_forall_mem.1 h1.1 e he
    simpa [hb] using this
  have hsame : ∀ i, i < ops.size → S.elem i = false → Cs (i + 1) = Cs i := by
    intro i hi hS
    obtain ⟨_, h2⟩ := hf i hi ops[i] (by simp [hi])
    split at h2
    · rcases h2 with h2 | h2
      · exact h2.2.1
      · rcases h2.2.1 with h3 | h3
        · exact h3
        · have : S.elem i = true := by simpa using h3.1
          rw [this] at hS; cases hS
    · exact h2.1
  have hE : ∀ k, k ≤ ops.size → ∀ w, Cs k w → E w := by
    intro k
    induction k with
    | zero => intro _; exact hE0
    | succ k ih =>
      intro hk w hw
      obtain ⟨_, h2⟩ := hf k (by omega) ops[k] (by simp [show k < ops.size by omega])
      split at h2
      · rcases h2 with h2 | h2
        · rw [h2.2.1] at hw; exact ih (by omega) w hw
        · rcases h2.2.1 with h3 | h3
          · rw [h3] at hw; exact ih (by omega) w hw
          · exact h3.2 w hw
      · rw [h2.1] at hw; exact ih (by omega) w hw
  have hlex : ∀ k, k ≤ ops.size → Rel ops a0 vals (fun j => decide (j < k)) (A k) := by
    intro k
    induction k with
    | zero => intro _; rw [hA0]; simpa using Rel.start (ops := ops) a0 vals
    | succ k ih =>
      intro hk
      have ho : ops[k]? = some ops[k] := by simp [show k < ops.size by omega]
      rw [(hf k (by omega) _ ho).1]
      exact (ih (by omega)).step hd ho _ (fun j => by rw [Bool.eq_iff_iff]; simp; omega)
  have done : ∀ (L : Array Bool) (a : Act) (w : World) (k : Nat), Closed ops L → Rel ops a0 vals (fun j => L.getD j false) a → k ≤ ops.size → (∀ s ∈ S, s < ops.size → (L.getD s false = true ↔ s < k)) → Cs k w →
      Region.ready .any ops L = [] → Q .normal a w := by
    intro L a w k hc hr hk hS hC hre
    have all : ∀ j, j < ops.size → L.getD j false = true := by
      intro j
      induction j using Nat.strongRecOn with
      | _ j ih =>
        intro hj
        cases hL : L.getD j false
        · have ho : ops[j]? = some ops[j] := by simp [hj]
          have : j ∈ Region.ready .any ops L := mem_ready.2 ⟨by rw [getD_bools (by rw [hc.1]; exact hj)]; exact hL, ops[j], ho, fun e he hb => by
            have := (hops ho).2.1 e he hb
            exact ih e.on this (by omega)⟩
          rw [hre] at this; cases this
        · rfl
    have e : (fun j => L.getD j false) = (fun j => decide (j < ops.size)) := by
      funext j
      by_cases hj : j < ops.size
      · rw [all j hj]; simp [hj]
      · cases hL : L.getD j false
        · simp [hj]
        · exact absurd (by rw [← hc.1]; exact getD_lt hL) hj
    rw [e] at hr
    have hae := hr.ext (hlex _ (Nat.le_refl _))
    have hCe : Cs k = Cs ops.size := cs_same hsame hk (Nat.le_refl _) (fun s hs hsn => by have := hS s hs hsn; rw [all s hsn] at this; simp at this; omega)
    rw [hae]
    exact hend w (hCe ▸ hC)
  intro fuel
  induction fuel with
  | zero =>
    intro L a w k hcnt hc hr hk hS hC
    have hre : Region.ready .any ops L = [] := by
      rw [List.eq_nil_iff_forall_not_mem]
      intro j hj
      obtain ⟨h1, o, ho, _⟩ := mem_ready.1 hj
      have hj' := (hops ho).1
      have : j ∈ (List.range ops.size).filter fun j => !L.getD j false := by
        rw [List.mem_filter]
        refine ⟨by simpa using hj', ?_⟩
        rw [getD_bools (by rw [hc.1]; exact hj')] at h1
        simp [h1]
      rw [List.eq_nil_of_length_eq_zero hcnt] at this
      cases this
    exact ⟨hre, done L a w k hc hr hk hS hC hre⟩
  | succ fuel ih =>
    intro L a w k hcnt hc hr hk hS hC
    refine ⟨fun hre => done L a w k hc hr hk hS hC hre, fun i hi => ?_⟩
    obtain ⟨hun, o, ho, hall⟩ := mem_ready.1 hi
    obtain ⟨hilt, hback, hlook⟩ := hops ho
    have hLs : i < L.size := by rw [hc.1]; exact hilt
    have hun' : L.getD i false = false := by rw [← getD_bools hLs]; exact hun
    have hget : ∀ j, (L.setIfInBounds i true).getD j false = (L.getD j false || j == i) := by
      intro j
      by_cases hji : i = j
      · subst hji; simp [hLs]
      · rw [getD_set_ne false hji]
        have : (j == i) = false := by simpa using fun h => hji h.symm
        rw [this]; simp
    have hc' : Closed ops (L.setIfInBounds i true) := by
      refine ⟨by simpa using hc.1, fun j oj hoj hj e he hb => ?_⟩
      rw [hget] at hj ⊢
      simp only [Bool.or_eq_true, beq_iff_eq] at hj
      rcases hj with hj | rfl
      · rw [hc.2 j oj hoj hj e he hb]; rfl
      · obtain rfl := Option.some.inj (ho.symm.trans hoj)
        rw [hall e he hb]; rfl
    have hcnt' : ((List.range ops.size).filter fun j => !(L.setIfInBounds i true).getD j false).length = fuel := by
      have e : ((List.range ops.size).filter fun j => !(L.setIfInBounds i true).getD j false) = ((List.range ops.size).filter fun j => !L.getD j false).erase i := by
        rw [List.Nodup.erase_eq_filter (List.nodup_range.filter _), List.filter_filter]
        apply List.filter_congr
        intro j _
        rw [hget]
        by_cases hji : j = i
        · simp [hji]
        · have h1 : (j == i) = false := by simpa using hji
          have h2 : (j != i) = true := by simpa using hji
          rw [h1, h2]; simp
      rw [e, List.length_erase_of_mem (by rw [List.mem_filter]; exact ⟨by simpa using hilt, by simp [hun']⟩), hcnt]
      rfl
    have hanc : ∀ j, anc ops ops.size i j = true → L.getD j false = true := fun j h => anc_listed hc _ _ _ h ⟨o, ho, hall⟩
    have hrel : Rel ops a0 vals (fun j => (L.setIfInBounds i true).getD j false) (a.put o.dst (vals i)) := hr.step hd ho _ (fun j => hget j)
    obtain ⟨hstep, hfi⟩ := hf i hilt o ho
    -- the slots that it looks at
    have hslot : ∀ t ∈ o.looksAt ops, a.tmps.getD t undef = (A i).tmps.getD t undef := by
      intro t ht
      refine hr.look3 (hlex i (by omega)) hd (t := t) fun j hj => ?_
      have h1 := List.all_eq_true.1 hlook t ht
      have hjlt : j < ops.size := by
        rcases Nat.lt_or_ge j ops.size with h' | h'
        · exact h'
        · simp [Array.getElem?_eq_none h'] at hj
      have h2 := List.all_eq_true.1 h1 j (by simpa using hjlt)
      simp only [hj, beq_self_eq_true, Bool.not_true, Bool.false_or, Bool.or_eq_true, Bool.and_eq_true, decide_eq_true_eq] at h2
      rcases h2 with h2 | h2
      · exact .inl ⟨hanc j h2.2, by simpa using h2.1⟩
      · refine .inr ⟨?_, by simp; omega⟩
        cases hLj : L.getD j false
        · rfl
        · have := anc_of_listed hc h2.2 hLj
          rw [hun'] at this; cases this
    have hex : execOp a.eval o = execOp (A i).eval o := by
      refine execOp_congr o (fun cs b => Region.noSelect_spec hsel i o cs b ho) fun x hx => ?_
      cases x with
      | tmp t => exact hslot t (by simp only [Oper.looksAt, List.mem_append, List.mem_filterMap]; exact .inl ⟨.tmp t, by simpa using hx, rfl⟩)
      | _ => rfl
    have hwant : Region.wanted o (yielded ops a.tmps) = Region.wanted o (yielded ops (A i).tmps) := by
      unfold Region.wanted
      cases hg : o.guard with
      | none => rfl
      | some g =>
        obtain ⟨j, wv⟩ := g
        simp only
        unfold yielded
        cases hdj : (ops[j]?).bind (·.dst) with
        | none => rfl
        | some t =>
          have hs := hslot t (by simp only [Oper.looksAt, List.mem_append]; right; simp [hg, hdj])
          have hsz : a.tmps.size = (A i).tmps.size := by rw [hr.size, (hlex i (by omega)).size]
          have : a.tmps[t]? = (A i).tmps[t]? := by
            rcases Nat.lt_or_ge t a.tmps.size with hlt | hlt
            · have hlt' : t < (A i).tmps.size := by rw [← hsz]; exact hlt
              simp only [Array.getD_eq_getD_getElem?, hlt, hlt', Array.getElem?_eq_getElem, Option.getD_some] at hs
              simp only [hlt, hlt', Array.getElem?_eq_getElem, hs]
            · rw [Array.getElem?_eq_none hlt, Array.getElem?_eq_none (by rw [← hsz]; exact hlt)]
          simp only [Option.bind_some, this]
    have hsz : a.tmps.size = (A i).tmps.size := by rw [hr.size, (hlex i (by omega)).size]
    -- the place among the writers
    have place : rd ops S i = true → (∀ s ∈ S, s < ops.size → (L.getD s false = true ↔ s < i)) := by
      intro hrd s hs hsn
      have h1 := List.all_eq_true.1 hrd s hs
      simp only [Bool.or_eq_true, beq_iff_eq] at h1
      rcases h1 with rfl | h1
      · rw [hun']; simp
      · unfold ordered at h1
        split at h1
        · rename_i hlt
          rw [hanc s h1]; simpa using hlt
        · rename_i hge
          constructor
          · intro hsl
            rw [anc_of_listed hc h1 hsl] at hun'; cases hun'
          · intro h; omega
    have hC' : rd ops S i = true → Cs i w := fun hrd => by
      have := cs_same hsame (show i ≤ ops.size by omega) hk (fun s hs hsn => ((place hrd s hs hsn).symm.trans (hS s hs hsn)))
      rw [this]; exact hC
    have keepS : S.elem i = false → ∀ s ∈ S, s < ops.size → ((L.setIfInBounds i true).getD s false = true ↔ s < k) := by
      intro hSi s hs hsn
      rw [hget]
      have : (s == i) = false := by
        cases hsi : (s == i)
        · rfl
        · have : s = i := by simpa using hsi
          subst this
          have : S.elem s = true := by simpa using hs
          rw [this] at hSi; cases hSi
      rw [this, Bool.or_false]; exact hS s hs hsn
    have nextS : i ∈ S → ∀ s ∈ S, s < ops.size → ((L.setIfInBounds i true).getD s false = true ↔ s < i + 1) := by
      intro hiS s hs hsn
      have hrd := List.all_eq_true.1 hSrd i hiS
      rw [hget]
      have := place hrd s hs hsn
      by_cases hsi : s = i
      · subst hsi; simp
      · have e : (s == i) = false := by simpa using hsi
        rw [e, Bool.or_false, this]; omega
    unfold wpOp
    simp only [ho]
    rw [hwant]
    by_cases hw : Region.wanted o (yielded ops (A i).tmps) = true
    · rw [if_pos hw] at hfi ⊢
      left
      rcases hfi with ⟨hSi, hCe, hany⟩ | ⟨hrd, hcs, hrun⟩
      · refine wp_transfer hex hsz (hany (Cs k) w hC (hE k hk w hC)) fun w' hw' => ?_
        exact ih _ _ w' k hcnt' hc' hrel hk (keepS hSi) hw'
      · refine wp_transfer hex hsz (hrun w (hC' hrd)) fun w' hw' => ?_
        by_cases hiS : i ∈ S
        · exact ih _ _ w' (i + 1) hcnt' hc' hrel (by omega) (nextS hiS) hw'
        · have hSi : S.elem i = false := by
            cases h : S.elem i
            · rfl
            · exact absurd (by simpa using h) hiS
          have hce := cs_same hsame (show i ≤ ops.size by omega) hk (fun s hs hsn => ((place hrd s hs hsn).symm.trans (hS s hs hsn)))
          exact ih _ _ w' k hcnt' hc' hrel hk (keepS hSi) (by rw [← hce, ← hsame i hilt hSi]; exact hw')
    · rw [if_neg hw] at hfi ⊢
      rw [hfi.2] at hrel
      by_cases hiS : i ∈ S
      · have hrd := List.all_eq_true.1 hSrd i hiS
        exact ih _ _ w (i + 1) hcnt' hc' hrel (by omega) (nextS hiS) (by rw [hfi.1]; exact hC' hrd)
      · have hSi : S.elem i = false := by
          cases h : S.elem i
          · rfl
          · exact absurd (by simpa using h) hiS
        exact ih _ _ w k hcnt' hc' hrel hk (keepS hSi) hC

/-- A REGION THAT DRAWS ITS ORDER, BY ONE WALK. S: the places of its writers. -/
theorem wp_region_reg3 {id : Nat} {l : List Oper} {Q : Exit → Act → World → Prop} {a : Act} {w : World} {C : World → Prop} (S : List Nat) (E : World → Prop) (hC : C w.drew) (hE : ∀ w, C w → E w) (hm : P.follows .mixedOrders = true) (hB : okReg3 l.toArray S = true)
    (h : wpReg P l.toArray S E (fun C a => ∀ w, C w → Q .normal a w) l 0 C a) : (Code.region id l.toArray true).wp P Q a w := by
  refine wp_region_any hm ?_
  obtain ⟨A, Cs, vals, hA, hCs, hF, hs⟩ := facts_of_wpReg (ops := l.toArray) l 0 C a (fun j => by simp) h
  have hn : 0 + l.length = l.toArray.size := by simp
  rw [hn] at hF
  refine reg_sound3 hB hA (hCs.symm ▸ hE) (fun w hw => hF w hw) (fun i hi o ho => hs i (by omega) (by simpa using hi) o ho) _ _ a _ 0 ?_ ⟨by simp, fun j oj _ hj => ?_⟩ ?_ (by omega) (fun s _ _ => ?_) (by rw [hCs]; exact hC)
  · have : ∀ j, (Array.replicate l.toArray.size false).getD j false = false := getD_replicate_false _
    simp only [this]
    rw [List.filter_eq_self.2 (by simp)]; simp
  · rw [getD_replicate_false] at hj; cases hj
  · have : (fun j => (Array.replicate l.toArray.size false).getD j false) = fun _ => false := funext (getD_replicate_false _)
    rw [this]; exact Rel.start a vals
  · rw [getD_replicate_false]; simp

end
end Go.Proofs.Ythncfjfgjdeajaa
