/-
  Communications within a walk: a call's frame is an ordinary one; a region that sends, receives or selects. Nobody else is there. No condition.
-/
import Derived.Test.YtckoiabainpamaaRules
import Derived.Conc.LoneSelect
namespace Go.Proofs.Ytckoiabainpamaa
open Go.RowKit Go.Conc
section
variable {P : Program} {Q : Exit → Act → World → Prop} {a : Act} {w : World}
/-- as Code.wp, of an ordinary call's frame -/
def NWp (P : Program) (c : Code) (Q : Exit → Act → World → Prop) (a : Act) (w : World) : Prop :=
  ∀ (b : Frame) (k : List Item) (cs : List Frame), b.kind = .normal → ∃ e a' w', Q e a' w' ∧ Arrives P (lone (b.at a (.code c :: k)) cs w) b k cs e a' w'
/-- what is left of a region -/
def NReg (P : Program) (ops : Array Oper) (l : List Nat) (Q : Exit → Act → World → Prop) (a : Act) (w : World) : Prop :=
  ∀ (b : Frame) (k : List Item) (cs : List Frame), b.kind = .normal → ∃ e a' w', Q e a' w' ∧ Arrives P (lone (b.at a (.inRegion ops l :: k)) cs w) b k cs e a' w'
theorem NWp.of {c : Code} (h : c.wp P Q a w) : NWp P c Q a w := fun b k cs _ => h b k cs
theorem NWp.seq {x y : Code} (h : NWp P x (Exit.then (NWp P y Q) Q) a w) : NWp P (.seq x y) Q a w := by
  intro b k cs hk
  obtain ⟨e, a₁, w₁, hq, harr⟩ := h b (.code y :: k) cs hk
  cases e with
  | normal =>
    obtain ⟨e₂, a₂, w₂, hq₂, harr₂⟩ := hq b k cs hk
    exact ⟨e₂, a₂, w₂, hq₂, .of_steps (.head step_seq harr) harr₂⟩
  | exit id => exact ⟨_, a₁, w₁, hq, .of_steps (.one step_seq) (.pass (x := .code y) rfl (fun _ _ => .inl (by simp)) harr)⟩
  | goto l => exact ⟨_, a₁, w₁, hq, .of_steps (.one step_seq) (.pass (x := .code y) rfl (fun _ _ => .inl (by simp)) harr)⟩
  | ret => exact ⟨_, a₁, w₁, hq, .of_steps (.one step_seq) (.pass (x := .code y) rfl (fun _ _ => .inl (by simp)) harr)⟩
  | panic ch => exact ⟨_, a₁, w₁, hq, .of_steps (.one step_seq) (.pass (x := .code y) rfl (fun _ _ => .inl (by simp)) harr)⟩
  | outgrown => exact ⟨_, a₁, w₁, hq, .of_steps (.one step_seq) (.pass (x := .code y) rfl (fun _ _ => .inl (by simp)) harr)⟩
theorem NWp.cond {c : Operand} {x y : Code} {t : Bool} (hc : a.eval c = .bool t) (h : NWp P (if t then x else y) Q a w) : NWp P (.cond c x y) Q a w :=
  fun b k cs hk => let ⟨e, a', w', q, r⟩ := h b k cs hk; ⟨e, a', w', q, .of_steps (.one (step_cond hc)) r⟩
theorem NWp.block {id : Nat} {c : Code} (h : NWp P c (Exit.inBlock id Q) a w) : NWp P (.block id c) Q a w := by
  intro b k cs hk
  obtain ⟨e, a₁, w₁, hq, harr⟩ := h b (.inBlock id :: k) cs hk
  cases e with
  | normal => exact ⟨.normal, a₁, w₁, hq, .head step_block (Steps.trans harr (.one step_inBlock))⟩
  | exit id' =>
    by_cases hid : id' = id
    · simp only [Exit.inBlock, hid, if_true] at hq
      exact ⟨.normal, a₁, w₁, hq, .head step_block (harr k (by simp [exitTo, hid]))⟩
    · simp only [Exit.inBlock, hid, if_false] at hq
      refine ⟨.exit id', a₁, w₁, hq, fun k' hk => .head step_block (harr k' ?_)⟩
      have : (id == id') = false := by simp; exact fun h => hid h.symm
      simp [exitTo, this, hk]
  | goto l => exact ⟨_, a₁, w₁, hq, fun k' hk => .head step_block (harr k' (by simp [gotoIn, hk]))⟩
  | ret => exact ⟨_, a₁, w₁, hq, .of_steps (.one step_block) harr⟩
  | panic ch => exact ⟨_, a₁, w₁, hq, .of_steps (.one step_block) harr⟩
  | outgrown => exact ⟨_, a₁, w₁, hq, .of_steps (b := b) (k := k) (cs := cs) (e := .outgrown) (.one step_block) harr⟩
theorem NWp.loop {c : Code} (I : Act → World → Prop) (μ : Act → World → Nat) (h₀ : I a w)
    (round : ∀ a w, I a w → NWp P c (Exit.then (fun a' w' => I a' w' ∧ μ a' w' < μ a w) Q) a w) : NWp P (.loop c) Q a w := by
  intro b k cs hk
  have key : ∀ n a w, μ a w = n → I a w →
      ∃ e a' w', Q e a' w' ∧ Arrives P (lone (b.at a (.code c :: .inLoop c :: k)) cs w) b k cs e a' w' := by
    intro n
    induction n using Nat.strongRecOn with
    | _ n ih =>
      intro a w hn hI
      obtain ⟨e, a₁, w₁, hq, harr⟩ := round a w hI b (.inLoop c :: k) cs hk
      cases e with
      | normal =>
        obtain ⟨hI₁, hlt⟩ := hq
        obtain ⟨e₂, a₂, w₂, hq₂, harr₂⟩ := ih (μ a₁ w₁) (hn ▸ hlt) a₁ w₁ rfl hI₁
        exact ⟨e₂, a₂, w₂, hq₂, .of_steps (Steps.trans harr (.one step_inLoop)) harr₂⟩
      | exit id => exact ⟨_, a₁, w₁, hq, .pass (x := .inLoop c) rfl (fun _ _ => .inl (by simp)) harr⟩
      | goto l => exact ⟨_, a₁, w₁, hq, .pass (x := .inLoop c) rfl (fun _ _ => .inl (by simp)) harr⟩
      | ret => exact ⟨_, a₁, w₁, hq, .pass (x := .inLoop c) rfl (fun _ _ => .inl (by simp)) harr⟩
      | panic ch => exact ⟨_, a₁, w₁, hq, .pass (x := .inLoop c) rfl (fun _ _ => .inl (by simp)) harr⟩
      | outgrown => exact ⟨_, a₁, w₁, hq, .pass (x := .inLoop c) rfl (fun _ _ => .inl (by simp)) harr⟩
  obtain ⟨e, a', w', hq, harr⟩ := key _ a w rfl h₀
  exact ⟨e, a', w', hq, .of_steps (.one step_loop) harr⟩
theorem NWp.region {id : Nat} {ops : Array Oper} (h : NReg P ops (List.range ops.size) Q a w) : NWp P (.region id ops false) Q a w :=
  fun b k cs hk => let ⟨e, a', w', q, r⟩ := h b k cs hk; ⟨e, a', w', q, .of_steps (.one step_region) r⟩
theorem NReg.ops {ops : Array Oper} {l : List Nat} (h : wpOps P ops Q l a w) : NReg P ops l Q a w := fun b k cs _ => wp_ops l a w h b k cs
/-- operations ahead of a communication -/
theorem NReg.pre {ops : Array Oper} {r : List Nat} (l : List Nat) : ∀ {a : Act} {w : World}, wpOps P ops (fun e a w => e = .normal ∧ NReg P ops r Q a w) l a w → NReg P ops (l ++ r) Q a w := by
  induction l with
  | nil => exact fun h => h.2
  | cons i rest ih =>
    intro a w h b k cs hkd
    simp only [wpOps] at h
    rw [List.cons_append]
    cases ho : ops[i]? with
    | none =>
      simp only [ho] at h
      obtain ⟨e, a', w', hq, harr⟩ := ih h b k cs hkd
      have hs := step_op_skip (P := P) (b := b) (a := a) (k := k) (cs := cs) (w := w) (ops := ops) (i := i) (rest := rest ++ r) (by simp [ho])
      simp only [ho, Option.bind_none, Act.put] at hs
      exact ⟨e, a', w', hq, .of_steps (.one hs) harr⟩
    | some o =>
      simp only [ho] at h
      by_cases hw : Region.wanted o (yielded ops a.tmps) = true
      · simp only [hw, if_true] at h
        rcases h with h | ⟨_, a₀, w₀, hq⟩
        case inr => cases hq.1
        simp only [Oper.wp, Oper.upon] at h
        have hg := stepG_op (P := P) (b := b) (k := k) (cs := cs) (w := w) (rest := rest ++ r) ho hw
        have hfin : ∀ v, (b.at a (.inRegion ops (i :: (rest ++ r)) :: k)).finish v = b.at (a.put o.dst v) (.inRegion ops (rest ++ r) :: k) := by
          intro v; rw [Frame.finish_at, ho]; rfl
        split at h
        · rename_i v w' hr
          obtain ⟨e, a', w'', hq, harr⟩ := ih h b k cs hkd
          refine ⟨e, a', w'', hq, .of_steps (.one (step_lone_go ?_)) harr⟩
          rw [hg, ← hfin]; simp [stepG.apply, hr]
        · rename_i w' hr
          obtain ⟨e, a', w'', hq, harr⟩ := ih h b k cs hkd
          refine ⟨e, a', w'', hq, .of_steps (.one (step_lone_go ?_)) harr⟩
          rw [hg, ← hfin]; simp [stepG.apply, hr]
        · rename_i d w' hr
          obtain ⟨e, a', w'', hq, harr⟩ := ih h b k cs hkd
          refine ⟨e, a', w'', hq, .of_steps (.one (step_lone_go ?_)) harr⟩
          have : ({ b.at a (.inRegion ops (i :: (rest ++ r)) :: k) with defers := d :: a.defers } : Frame).finish undef =
              b.at ({ a with defers := d :: a.defers }.put o.dst undef) (.inRegion ops (rest ++ r) :: k) := by
            have := Frame.finish_at b { a with defers := d :: a.defers } ops i (rest ++ r) k undef
            rw [ho] at this; exact this
          rw [hg]; simp only [stepG.apply, Sem.runT_eq, hr, GStep.bare_after]
          exact congrArg (fun fr => GStep.go { frame := fr, callers := cs, status := .running, dying := none } w') this
        · rename_i f args w' hr
          obtain ⟨e, w'', fr, hR, hsteps, _, hleave⟩ := h (b.at a (.inRegion ops (i :: (rest ++ r)) :: k) :: cs)
          have henter : step P (lone (b.at a (.inRegion ops (i :: (rest ++ r)) :: k)) cs w) =
              .next (lone (Frame.enter P f args .normal) (b.at a (.inRegion ops (i :: (rest ++ r)) :: k) :: cs) w') :=
            step_lone_go (by rw [hg]; simp [stepG.apply, hr, Frame.at])
          cases e with
          | returned v =>
            obtain ⟨e, a', w₃, hq, harr⟩ := ih hR b k cs hkd
            refine ⟨e, a', w₃, hq, .of_steps (.head henter (hsteps.trans (.one ?_))) harr⟩
            rw [← hfin]; exact step_leave_returned hleave
          | panicked chain => cases hR.1
          | outgrown =>
            obtain ⟨a₀, w₀, hq⟩ := hR
            cases hq.1
        · rename_i row args w' hr
          obtain ⟨v, w'', hR, hsteps⟩ := h (b.at a (.inRegion ops (i :: (rest ++ r)) :: k)) cs
          have henter : step P (lone (b.at a (.inRegion ops (i :: (rest ++ r)) :: k)) cs w) =
              .next (lone (Frame.ofRow P row args .normal) (b.at a (.inRegion ops (i :: (rest ++ r)) :: k) :: cs) w') :=
            step_lone_go (by rw [hg]; simp [stepG.apply, hr, Frame.at])
          obtain ⟨e, a', w₃, hq, harr⟩ := ih hR b k cs hkd
          refine ⟨e, a', w₃, hq, .of_steps (.head henter ?_) harr⟩
          rw [← hfin]; exact hsteps
        · rename_i v w' hr
          cases h.1
        · exact h.elim
      · simp only [hw, if_false, Bool.false_eq_true] at h
        obtain ⟨e, a', w', hq, harr⟩ := ih h b k cs hkd
        have hs := step_op_skip (P := P) (b := b) (a := a) (k := k) (cs := cs) (w := w) (ops := ops) (i := i) (rest := rest ++ r)
          (by simp [ho]; simpa using hw)
        simp only [ho, Option.bind_some] at hs
        exact ⟨e, a', w', hq, .of_steps (.one hs) harr⟩
/-- a communication -/
theorem NReg.comm {ops : Array Oper} {i : Nat} {rest : List Nat} {o : Oper} {cases : Array CommCase} {blocking : Bool} {shape : CommShape} {v : Value} {w' : World} (ho : ops[i]? = some o) (hw : Region.wanted o (yielded ops a.tmps) = true)
    (hr : (execOp a.eval o).run P w = .ok (.comm cases blocking shape) w)
    (hstep : ∀ (fr : Frame) (cs : List Frame) (es : Array Event), stepG P true (G fr cs) w = .comm (G fr cs) cases blocking shape w es → step P (solo (G fr cs) w) = .next (solo (G (fr.finish v) cs) w'))
    (h : NReg P ops rest Q (a.put o.dst v) w') : NReg P ops (i :: rest) Q a w := by
  intro b k cs hk
  obtain ⟨e, a', w'', q, arr⟩ := h b k cs hk
  refine ⟨e, a', w'', q, .of_steps (.one ?_) arr⟩
  have := hstep _ cs _ (stepG_comm (main := true) (k := k) (cs := cs) (rest := rest) ho hw (by rw [hk]; decide) hr)
  rw [Frame.finish_at, ho] at this
  exact this
theorem wpOps_pre {ops : List Oper} {Q' : Exit → Act → World → Prop} (pre : List Oper) (hp : ops.take pre.length = pre) (h : wpList P ops.toArray Q' pre a w) : wpOps P ops.toArray Q' (List.range' 0 pre.length) a w := by
  have key : ∀ (l : List Oper) (k : Nat), (∀ j, j < l.length → l[j]? = ops.toArray[k + j]?) → wpOps P ops.toArray Q' (List.range' k l.length) = wpList P ops.toArray Q' l := by
    intro l
    induction l with
    | nil => intro k _; funext a w; simp [wpOps, wpList]
    | cons o l ih =>
      intro k h
      have h0 : ops.toArray[k]? = some o := by simpa using (h 0 (by simp)).symm
      have ih' := ih (k + 1) (fun j hj => by have := h (j + 1) (by simpa using hj); simpa [Nat.add_assoc, Nat.add_comm 1 j] using this)
      funext a w
      simp only [List.length_cons, List.range'_succ, wpOps, h0, wpList, ih']
  rw [key pre 0 (fun j hj => by
    have e : pre[j]? = (ops.take pre.length)[j]? := by rw [hp]
    rw [e, List.getElem?_take, if_pos hj]; simp)]
  exact h
theorem NReg.list {ops : List Oper} (k : Nat) (l : List Oper) (hl : ops.drop k = l) (h : wpList P ops.toArray Q l a w) : NReg P ops.toArray (List.range' k l.length) Q a w :=
  NReg.ops (by rw [wpOps_eq_wpList l k (fun j => by subst hl; simp)]; exact h)
theorem NReg.prel {ops : List Oper} (pre : List Oper) {r : List Nat} (hp : ops.take pre.length = pre) (h : wpList P ops.toArray (fun e a w => e = .normal ∧ NReg P ops.toArray r Q a w) pre a w) : NReg P ops.toArray (List.range' 0 pre.length ++ r) Q a w :=
  NReg.pre _ (wpOps_pre pre hp h)
theorem NReg.pren {ops : List Oper} (n : Nat) {r : List Nat} (h : wpList P ops.toArray (fun e a w => e = .normal ∧ NReg P ops.toArray r Q a w) (ops.take n) a w) : NReg P ops.toArray (List.range' 0 (ops.take n).length ++ r) Q a w :=
  NReg.prel _ (by rw [List.length_take]; exact List.take_eq_take_iff.2 (by omega)) h
theorem calls_of_nwp {f : FuncId} {fn : Func} {c : Code} {args : Array Value} {R : Ending → World → Prop} (hf : P.funcs[f]? = some fn) (hb : fn.body = some c)
    (h : NWp P c (bodyPost P fn R) { tmps := args ++ Array.replicate (fn.ntmps - args.size) undef, defers := [] } w) : Calls P f args w R := by
  intro cs
  let b : Frame := { (default : Frame) with fn := f, kind := .normal }
  have henter : Frame.enter P f args .normal =
      b.at { tmps := args ++ Array.replicate (fn.ntmps - args.size) undef, defers := [] } [.code c] := by
    simp [Frame.enter, Frame.at, hf, hb, b]
  obtain ⟨e, a', w', hq, harr⟩ := h b [] cs rfl
  rw [← henter] at harr
  cases e with
  | normal =>
    obtain ⟨hd, v, hr, hR⟩ := hq
    exact ⟨.returned v, w', _, hR, Steps.trans harr (.one step_end), rfl, rfl, hd, rfl, fn, hf, hr⟩
  | ret =>
    obtain ⟨hd, v, hr, hR⟩ := hq
    obtain ⟨todo, hs⟩ := harr
    exact ⟨.returned v, w', _, hR, hs, rfl, rfl, hd, rfl, fn, hf, hr⟩
  | exit id => exact hq.elim
  | goto l => exact hq.elim
  | panic chain =>
    obtain ⟨hd, hR⟩ := hq
    obtain ⟨todo, hs⟩ := harr
    exact ⟨.panicked chain, w', _, hR, hs, rfl, rfl, hd, fn, hf⟩
  | outgrown => exact ⟨.outgrown, w', b, hq, harr.resolve_left (by simp [b]), rfl, trivial⟩
end
end Go.Proofs.Ytckoiabainpamaa
