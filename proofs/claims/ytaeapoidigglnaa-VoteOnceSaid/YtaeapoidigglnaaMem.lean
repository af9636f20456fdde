/-
  A small logic of owned memory for the walks: which blocks a call owns and what they hold (Inv), and how each operation on memory turns that. No condition.
-/
import Derived.WalkKit
import Derived.Lib.Hide
import Derived.Deep.Quiet
import Derived.StillTail
namespace Go.Proofs.Ytaeapoidigglnaa
open Go.RowKit

/-- something owned in memory: the numbers of its blocks, and what it says of a world -/
structure Res where
  own : List Nat
  sat : World → Prop
  loc : ∀ w w' : World, (∀ k ∈ own, w'.heap[k]? = w.heap[k]?) → sat w → sat w'

/-- a block of cells -/
def blk (b : Nat) (e : TypeId) (cs : List Value) : Res :=
  ⟨[b], fun w => w.heap[b]? = some (.cells cs.toArray e (0, 0)), fun w w' h hs => by rw [h b (by simp)]; exact hs⟩

def owned (m : List Res) : List Nat := m.flatMap Res.own

/-- w is w0, but for the blocks T and for what is new; m is owned -/
structure Inv (T : List Nat) (w0 w : World) (m : List Res) : Prop where
  os : w.os = w0.os
  tape : w.tape = w0.tape
  output : w.output = w0.output
  size : w0.heap.size ≤ w.heap.size
  old : ∀ k, k < w0.heap.size → k ∉ T → w.heap[k]? = w0.heap[k]?
  sat : ∀ r ∈ m, r.sat w
  mine : ∀ k ∈ owned m, (w0.heap.size ≤ k ∨ k ∈ T) ∧ k < w.heap.size
  apart : (owned m).Nodup

/-- a step that turns the blocks S alone -/
structure Step (S : List Nat) (w w' : World) : Prop where
  os : w'.os = w.os
  tape : w'.tape = w.tape
  output : w'.output = w.output
  size : w.heap.size ≤ w'.heap.size
  same : ∀ k, k < w.heap.size → k ∉ S → w'.heap[k]? = w.heap[k]?

theorem Step.refl (S : List Nat) (w : World) : Step S w w := ⟨rfl, rfl, rfl, Nat.le_refl _, fun _ _ _ => rfl⟩
theorem Step.drew (S : List Nat) (w : World) : Step S w w.drew := ⟨rfl, rfl, rfl, Nat.le_refl _, fun _ _ _ => rfl⟩
theorem Step.of_below {w w' : World} (h : Below w.heap.size w w') : Step [] w w' := ⟨h.os, h.tape, h.output, h.size, fun k hk _ => h.block k hk⟩
theorem Step.below {w w' : World} (h : Step [] w w') : Below w.heap.size w w' := ⟨h.os, h.tape, h.output, h.size, fun k hk => h.same k hk (by simp)⟩
theorem Step.trans {S : List Nat} {a b c : World} (h : Step S a b) (k : Step S b c) : Step S a c :=
  ⟨k.os.trans h.os, k.tape.trans h.tape, k.output.trans h.output, Nat.le_trans h.size k.size, fun i hi hn => (k.same i (Nat.lt_of_lt_of_le hi h.size) hn).trans (h.same i hi hn)⟩
theorem Step.mono {S S' : List Nat} {a b : World} (h : Step S a b) (hs : ∀ k ∈ S, k ∈ S') : Step S' a b :=
  ⟨h.os, h.tape, h.output, h.size, fun k hk hn => h.same k hk (fun hh => hn (hs k hh))⟩

/-- m' is m with r' in the place of r -/
def Upd (r r' : Res) : List Res → List Res → Prop
  | [], _ => False
  | x :: m, m' => (x = r ∧ m' = r' :: m) ∨ ∃ m'', Upd r r' m m'' ∧ m' = x :: m''
theorem Upd.here {r r' : Res} {m : List Res} : Upd r r' (r :: m) (r' :: m) := .inl ⟨rfl, rfl⟩
theorem Upd.there {r r' x : Res} {m m' : List Res} (h : Upd r r' m m') : Upd r r' (x :: m) (x :: m') := .inr ⟨_, h, rfl⟩
theorem Upd.split {r r' : Res} : ∀ {m m' : List Res}, Upd r r' m m' → ∃ m1 m2, m = m1 ++ r :: m2 ∧ m' = m1 ++ r' :: m2
  | [], _, h => h.elim
  | x :: m, m', h => by
    rcases h with ⟨rfl, rfl⟩ | ⟨m'', h, rfl⟩
    · exact ⟨[], m, rfl, rfl⟩
    · obtain ⟨m1, m2, rfl, rfl⟩ := Upd.split h
      exact ⟨x :: m1, m2, rfl, rfl⟩

theorem mem_owned {m : List Res} {k : Nat} : k ∈ owned m ↔ ∃ r ∈ m, k ∈ r.own := by simp [owned]
theorem owned_append (a b : List Res) : owned (a ++ b) = owned a ++ owned b := by simp [owned]
theorem owned_cons (r : Res) (b : List Res) : owned (r :: b) = r.own ++ owned b := by simp [owned]

section
variable {T : List Nat} {w0 w w' : World} {m m' : List Res} {r r' : Res}

theorem Inv.start (w : World) : Inv [] w w [] := ⟨rfl, rfl, rfl, Nat.le_refl _, fun _ _ _ => rfl, by simp, by simp [owned], by simp [owned]⟩

theorem Inv.upd (h : Inv T w0 w m) (hu : Upd r r' m m') (hs : Step r.own w w') (hr : r'.sat w') (ho : ∀ k ∈ r'.own, k ∈ r.own ∨ (w.heap.size ≤ k ∧ k < w'.heap.size)) (hn : r'.own.Nodup) : Inv T w0 w' m' := by
  obtain ⟨m1, m2, rfl, rfl⟩ := hu.split
  have hap := h.apart
  have hmine := h.mine
  simp only [owned_append, owned_cons] at hap hmine
  rw [List.nodup_append, List.nodup_append] at hap
  obtain ⟨h1, ⟨h2, h3, h4⟩, h5⟩ := hap
  refine ⟨hs.os.trans h.os, hs.tape.trans h.tape, hs.output.trans h.output, Nat.le_trans h.size hs.size, fun k hk hkT => ?_, fun x hx => ?_, fun k hk => ?_, ?_⟩
  · refine (hs.same k (Nat.lt_of_lt_of_le hk h.size) fun hkr => ?_).trans (h.old k hk hkT)
    have := (hmine k (by simp [hkr])).1
    rcases this with h | h
    · omega
    · exact hkT h
  · have keep : ∀ y ∈ m1 ++ m2, y.sat w' := by
      intro y hy
      refine y.loc w w' (fun k hk => hs.same k ?_ ?_) (h.sat y (by simp only [List.mem_append, List.mem_cons] at *; rcases hy with hy | hy <;> simp [hy]))
      · refine (hmine k ?_).2
        simp only [List.mem_append] at *
        rcases hy with hy | hy
        · exact .inl (mem_owned.2 ⟨y, hy, hk⟩)
        · exact .inr (.inr (mem_owned.2 ⟨y, hy, hk⟩))
      · intro hkr
        rcases List.mem_append.1 hy with hy | hy
        · exact h5 k (mem_owned.2 ⟨y, hy, hk⟩) k (List.mem_append.2 (.inl hkr)) rfl
        · exact h4 k hkr k (mem_owned.2 ⟨y, hy, hk⟩) rfl
    simp only [List.mem_append, List.mem_cons] at hx
    rcases hx with hx | rfl | hx
    · exact keep x (by simp [hx])
    · exact hr
    · exact keep x (by simp [hx])
  · simp only [owned_append, owned_cons, List.mem_append] at hk
    rcases hk with hk | hk | hk
    · have := hmine k (by simp [hk]); exact ⟨this.1, Nat.lt_of_lt_of_le this.2 hs.size⟩
    · rcases ho k hk with hk | hk
      · have := hmine k (by simp [hk]); exact ⟨this.1, Nat.lt_of_lt_of_le this.2 hs.size⟩
      · exact ⟨.inl (Nat.le_trans h.size hk.1), hk.2⟩
    · have := hmine k (by simp [hk]); exact ⟨this.1, Nat.lt_of_lt_of_le this.2 hs.size⟩
  · simp only [owned_append, owned_cons]
    rw [List.nodup_append, List.nodup_append]
    have new : ∀ k ∈ r'.own, k ∉ r.own → ∀ j, j < w.heap.size → k ≠ j := fun k hk hkn j hj => by
      rcases ho k hk with hk | hk
      · exact absurd hk hkn
      · omega
    refine ⟨h1, ⟨hn, h3, fun k hk j hj => ?_⟩, fun k hk j hj => ?_⟩
    · by_cases hkr : k ∈ r.own
      · exact h4 k hkr j hj
      · exact new k hk hkr j (hmine j (by simp [hj])).2
    · rcases List.mem_append.1 hj with hj | hj
      · by_cases hjr : j ∈ r.own
        · exact h5 k hk j (by simp [hjr])
        · exact (new j hj hjr k (hmine k (by simp [hk])).2).symm
      · exact h5 k hk j (by simp [hj])

theorem Inv.new (h : Inv T w0 w m) (hs : Step [] w w') (hr : r'.sat w') (ho : ∀ k ∈ r'.own, w.heap.size ≤ k ∧ k < w'.heap.size) (hn : r'.own.Nodup) : Inv T w0 w' (r' :: m) := by
  refine ⟨hs.os.trans h.os, hs.tape.trans h.tape, hs.output.trans h.output, Nat.le_trans h.size hs.size, fun k hk hkT => (hs.same k (Nat.lt_of_lt_of_le hk h.size) (by simp)).trans (h.old k hk hkT), fun x hx => ?_, fun k hk => ?_, ?_⟩
  · rcases List.mem_cons.1 hx with rfl | hx
    · exact hr
    · exact x.loc w w' (fun k hk => hs.same k (h.mine k (mem_owned.2 ⟨x, hx, hk⟩)).2 (by simp)) (h.sat x hx)
  · rw [owned_cons] at hk
    rcases List.mem_append.1 hk with hk | hk
    · have := ho k hk; exact ⟨.inl (Nat.le_trans h.size this.1), this.2⟩
    · have := h.mine k hk; exact ⟨this.1, Nat.lt_of_lt_of_le this.2 hs.size⟩
  · rw [owned_cons, List.nodup_append]
    refine ⟨hn, h.apart, fun k hk j hj => ?_⟩
    have h1 := ho k hk
    have h2 := (h.mine j hj).2
    omega

theorem Inv.step (h : Inv T w0 w m) (hs : Step [] w w') : Inv T w0 w' m := by
  refine ⟨hs.os.trans h.os, hs.tape.trans h.tape, hs.output.trans h.output, Nat.le_trans h.size hs.size, fun k hk hkT => (hs.same k (Nat.lt_of_lt_of_le hk h.size) (by simp)).trans (h.old k hk hkT), fun x hx => ?_, fun k hk => ?_, h.apart⟩
  · exact x.loc w w' (fun k hk => hs.same k (h.mine k (mem_owned.2 ⟨x, hx, hk⟩)).2 (by simp)) (h.sat x hx)
  · have := h.mine k hk; exact ⟨this.1, Nat.lt_of_lt_of_le this.2 hs.size⟩
theorem Inv.call (h : Inv T w0 w m) (hb : Below w.heap.size w w') : Inv T w0 w' m := h.step (.of_below hb)
theorem Inv.drew (h : Inv T w0 w m) : Inv T w0 w.drew m := h.step (.drew _ _)

theorem owned_sub : ∀ {m' m : List Res}, m'.Sublist m → (owned m').Sublist (owned m) := by
  intro m' m hs
  unfold owned
  induction hs with
  | slnil => exact List.Sublist.refl _
  | cons a _ ih => simp only [List.flatMap_cons]; exact ih.trans (List.sublist_append_right _ _)
  | cons_cons a _ ih => simp only [List.flatMap_cons]; exact List.Sublist.append (List.Sublist.refl _) ih
/-- fewer things are owned -/
theorem Inv.sub (h : Inv T w0 w m) (hs : m'.Sublist m) : Inv T w0 w m' := by
  have ho := owned_sub hs
  exact ⟨h.os, h.tape, h.output, h.size, h.old, fun r hr => h.sat r (hs.subset hr), fun k hk => h.mine k (ho.subset hk), h.apart.sublist ho⟩

theorem Inv.below (h : Inv [] w0 w m) : Below w0.heap.size w0 w := ⟨h.os, h.tape, h.output, h.size, fun k hk => h.old k hk (by simp)⟩
theorem Inv.end_ (h : Inv T w0 w m) : Step T w0 w := ⟨h.os, h.tape, h.output, h.size, fun k hk hn => h.old k hk hn⟩
/-- a cell that was there -/
theorem Inv.cell (h : Inv [] w0 w m) {p : Addr} {v : Value} (hc : w0.cell? p = some v) : w.cell? p = some v := (h.below.cell (World.block_lt_of_cell? _ _ hc)).trans hc

/-- a block that came in is taken over -/
theorem Inv.take {b : Nat} {e : TypeId} {cs : List Value} (hb : w.heap[b]? = some (.cells cs.toArray e (0, 0))) : Inv [b] w w [blk b e cs] := by
  refine ⟨rfl, rfl, rfl, Nat.le_refl _, fun _ _ _ => rfl, ?_, ?_, by simp [owned, blk]⟩
  · intro r hr; obtain rfl := List.mem_singleton.1 hr; exact hb
  · intro k hk
    simp [owned, blk] at hk
    subst hk
    exact ⟨.inr (by simp), (Array.getElem?_eq_some_iff.1 hb).1⟩

theorem Inv.blk {b : Nat} {e : TypeId} {cs : List Value} (h : Inv T w0 w m) (hm : blk b e cs ∈ m) : w.heap[b]? = some (.cells cs.toArray e (0, 0)) := h.sat _ hm

/-- a call that turns one block that is owned here -/
theorem Inv.callOn {b : Nat} {e : TypeId} {cs cs' : List Value} (h : Inv T w0 w m) (hu : Upd (Go.Proofs.Ytaeapoidigglnaa.blk b e cs) (Go.Proofs.Ytaeapoidigglnaa.blk b e cs') m m') (hs : Step [b] w w') (hr : w'.heap[b]? = some (.cells cs'.toArray e (0, 0))) : Inv T w0 w' m' :=
  h.upd hu hs hr (fun k hk => .inl hk) (by simp [Go.Proofs.Ytaeapoidigglnaa.blk])
end

/-! ### reading and writing cells -/
section
variable {P : Program} {w : World} {b : Nat} {e : TypeId} {cs : List Value} {fr : Nat × Nat}

theorem cell_blk (hb : w.heap[b]? = some (.cells cs.toArray e fr)) (i : Nat) : w.cell? ⟨b, i, none⟩ = cs[i]? := by
  simp [World.cell?, hb]

theorem addr_add' (b off i : Nat) : (⟨b, off, none⟩ : Addr).add i = ⟨b, off + i, none⟩ := by
  unfold Addr.add; split
  · subst_vars; rfl
  · rfl

theorem run_loadFrom (hb : w.heap[b]? = some (.cells cs.toArray e fr)) (off : Nat) : ∀ (n i : Nat) (acc : Array Value), off + i + n ≤ cs.length →
    (loadCellsFrom ⟨b, off, none⟩ i n acc).run P w = .ok (acc ++ ((cs.drop (off + i)).take n).toArray) w
  | 0, i, acc, _ => by simp [loadCellsFrom]
  | n + 1, i, acc, h => by
    have hi : off + i < cs.length := by omega
    have hc : w.cell? ⟨b, off + i, none⟩ = some cs[off + i] := by rw [cell_blk hb]; simp [hi]
    rw [loadCellsFrom, Sem.run_bind]
    have hl : (load ((⟨b, off, none⟩ : Addr).add i)).run P w = .ok cs[off + i] w := by
      rw [addr_add', load, Sem.run, hc]
      rfl
    rw [hl, Result.andThen_ok, run_loadFrom hb off n (i + 1) _ (by omega)]
    congr 1
    rw [List.drop_eq_getElem_cons hi, List.take_succ_cons]
    simp [Nat.add_assoc]

theorem run_loadCells (hb : w.heap[b]? = some (.cells cs.toArray e fr)) (off n : Nat) (h : off + n ≤ cs.length) :
    (loadCells ⟨b, off, none⟩ n).run P w = .ok ((cs.drop off).take n).toArray w := by
  rw [loadCells, run_loadFrom hb off n 0 #[] (by omega)]
  simp

/-- the type is a struct or an array of n cells -/
def AggT (P : Program) (t : TypeId) (n : Nat) : Prop := (match P.underlying t with | some (.struct _) | some (.array _ _) => true | _ => false) = true ∧ (P.info? t).map (·.size) = some n
/-- the type is neither, and has one cell -/
def OneT (P : Program) (t : TypeId) : Prop := (match P.underlying t with | some (.struct _) | some (.array _ _) | none => true | _ => false) = false ∧ (P.info? t).map (·.size) = some 1

theorem AggT.isAgg {t n} (h : AggT P t n) (w : World) : (isAgg t).run P w = .ok true w := by
  obtain ⟨h1, _⟩ := h
  unfold Go.isAgg
  cases hu : P.underlying t with
  | none => simp [hu] at h1
  | some d => rw [Sem.run_bind, run_underlying hu w]; cases d <;> simp_all
theorem OneT.isAgg {t} (h : OneT P t) (w : World) : (isAgg t).run P w = .ok false w := by
  obtain ⟨h1, _⟩ := h
  unfold Go.isAgg
  cases hu : P.underlying t with
  | none => simp [hu] at h1
  | some d => rw [Sem.run_bind, run_underlying hu w]; cases d <;> simp_all
theorem AggT.size {t n} (h : AggT P t n) : (P.info? t).map (·.size) = some n := h.2
theorem OneT.size {t} (h : OneT P t) : (P.info? t).map (·.size) = some 1 := h.2
theorem run_sizeOf' {t n} (h : (P.info? t).map (·.size) = some n) (w : World) : (sizeOf t).run P w = .ok n w := by
  obtain ⟨i, hi, rfl⟩ := Option.map_eq_some_iff.1 h
  simp [sizeOf, typeInfo, hi]

theorem run_load_agg {t n} (hT : AggT P t n) (hb : w.heap[b]? = some (.cells cs.toArray e fr)) (off : Nat) (h : off + n ≤ cs.length) :
    (loadVar t ⟨b, off, none⟩).run P w = .ok (.agg ((cs.drop off).take n).toArray) w := by
  rw [loadVar, Sem.run_bind, hT.isAgg, Result.andThen_ok]
  simp only [if_true]
  rw [Sem.run_bind, run_sizeOf' hT.2, Result.andThen_ok, Sem.run_bind, run_loadCells hb off n h, Result.andThen_ok]
  rfl
theorem run_load_one {t v} (hT : OneT P t) (hb : w.heap[b]? = some (.cells cs.toArray e fr)) (off : Nat) (h : cs[off]? = some v) :
    (loadVar t ⟨b, off, none⟩).run P w = .ok v w := by
  rw [loadVar, Sem.run_bind, hT.isAgg, Result.andThen_ok]
  simp only [Bool.false_eq_true, if_false]
  rw [load, Sem.run, cell_blk hb, h]
  rfl

/-- the cells from off on are vs -/
def splice (cs : List Value) (off : Nat) (vs : List Value) : List Value := cs.take off ++ vs ++ cs.drop (off + vs.length)

theorem splice_cons (cs : List Value) (off : Nat) (v : Value) (vs : List Value) (h : off < cs.length) : splice (cs.set off v) (off + 1) vs = splice cs off (v :: vs) := by
  unfold splice
  rw [List.take_succ_eq_append_getElem (by simpa using h)]
  simp only [List.getElem_set_self, List.length_cons, List.append_assoc, List.cons_append, List.nil_append]
  rw [List.take_set_of_le (Nat.le_refl _), List.drop_set_of_lt (by omega)]
  rw [show off + 1 + vs.length = off + (vs.length + 1) from by omega]

theorem run_storeCells (vs : List Value) (h1 : ∀ u ∈ vs, u.oneCell' = true) : ∀ (w : World) (cs : List Value) (off i : Nat), w.heap[b]? = some (.cells cs.toArray e (0, 0)) → off + i + vs.length ≤ cs.length →
    ∃ w', (storeCells ⟨b, off, none⟩ vs i).run P w = .ok () w' ∧ Step [b] w w' ∧ w'.heap.size = w.heap.size ∧ w'.heap[b]? = some (.cells (splice cs (off + i) vs).toArray e (0, 0)) := by
  induction vs with
  | nil => intro w cs off i hb _; exact ⟨w, by simp [storeCells], .refl _ _, rfl, by simpa [splice] using hb⟩
  | cons v vs ih =>
    intro w cs off i hb hl
    simp only [List.length_cons] at hl
    have hi : off + i < cs.length := by omega
    have hone := h1 v (by simp)
    have hc : w.cell? ⟨b, off + i, none⟩ = some cs[off + i] := by rw [cell_blk hb]; simp [hi]
    have hfz : w.frozen? ⟨b, off + i, none⟩ = false := by simp [World.frozen?, hb]
    have hb' : (w.setCell ⟨b, off + i, none⟩ v).heap[b]? = some (.cells (cs.set (off + i) v).toArray e (0, 0)) := by
      simp [World.setCell, Array.getElem?_modify, hb]
    obtain ⟨w', hr, hs, hsz, hh⟩ := ih (fun u hu => h1 u (by simp [hu])) (w.setCell ⟨b, off + i, none⟩ v) (cs.set (off + i) v) off (i + 1) hb' (by simp; omega)
    have hst : Step [b] w (w.setCell ⟨b, off + i, none⟩ v) := ⟨rfl, rfl, rfl, by simp [World.setCell], fun k _ hk => by
      simp only [World.setCell, Array.getElem?_modify]
      rw [if_neg (by simp at hk; omega)]⟩
    refine ⟨w', ?_, hst.trans hs, by rw [hsz]; simp [World.setCell], ?_⟩
    · rw [storeCells, Sem.run_bind]
      have hst1 : (store ((⟨b, off, none⟩ : Addr).add i) v).run P w = .ok () (w.setCell ⟨b, off + i, none⟩ v) := by
        rw [addr_add', store]
        cases v <;> first | (simp [Value.oneCell'] at hone; done) | (simp [Sem.run, hc, hfz])
      rw [hst1, Result.andThen_ok, hr]
    · rw [hh, show off + (i + 1) = off + i + 1 from rfl, splice_cons cs (off + i) v vs hi]

theorem run_storeVar {t n : Nat} {v : Value} (hn : (P.info? t).map (·.size) = some n) (vs : List Value) (hv : v.cells = vs.toArray) (hl : vs.length = n) (h1 : ∀ u ∈ vs, u.oneCell' = true)
    (hb : w.heap[b]? = some (.cells cs.toArray e (0, 0))) (off : Nat) (hoff : off + n ≤ cs.length) :
    ∃ w', (storeVar t ⟨b, off, none⟩ v).run P w = .ok () w' ∧ Step [b] w w' ∧ w'.heap.size = w.heap.size ∧ w'.heap[b]? = some (.cells (splice cs off vs).toArray e (0, 0)) := by
  obtain ⟨w', hr, hs, hsz, hh⟩ := run_storeCells (P := P) vs h1 w cs off 0 hb (by omega)
  refine ⟨w', ?_, hs, hsz, hh⟩
  rw [storeVar, Sem.run_bind, run_sizeOf' hn, Result.andThen_ok, hv]
  simp only [List.size_toArray, hl, ne_eq, not_true_eq_false, if_false]
  first | exact hr | (simp; exact hr)
end

/-! ### short words for the places of a list -/
section
variable {α : Type _}
theorem mm0 {x : α} {l : List α} : x ∈ x :: l := List.mem_cons_self
theorem mm1 {x a0: α} {l : List α} : x ∈ a0 :: x :: l := List.mem_cons_of_mem _ (List.mem_cons_self)
theorem mm2 {x a0 a1: α} {l : List α} : x ∈ a0 :: a1 :: x :: l := List.mem_cons_of_mem _ (List.mem_cons_of_mem _ (List.mem_cons_self))
theorem mm3 {x a0 a1 a2: α} {l : List α} : x ∈ a0 :: a1 :: a2 :: x :: l := List.mem_cons_of_mem _ (List.mem_cons_of_mem _ (List.mem_cons_of_mem _ (List.mem_cons_self)))
theorem mm4 {x a0 a1 a2 a3: α} {l : List α} : x ∈ a0 :: a1 :: a2 :: a3 :: x :: l := List.mem_cons_of_mem _ (List.mem_cons_of_mem _ (List.mem_cons_of_mem _ (List.mem_cons_of_mem _ (List.mem_cons_self))))
theorem mm5 {x a0 a1 a2 a3 a4: α} {l : List α} : x ∈ a0 :: a1 :: a2 :: a3 :: a4 :: x :: l := List.mem_cons_of_mem _ (List.mem_cons_of_mem _ (List.mem_cons_of_mem _ (List.mem_cons_of_mem _ (List.mem_cons_of_mem _ (List.mem_cons_self)))))
theorem mm6 {x a0 a1 a2 a3 a4 a5: α} {l : List α} : x ∈ a0 :: a1 :: a2 :: a3 :: a4 :: a5 :: x :: l := List.mem_cons_of_mem _ (List.mem_cons_of_mem _ (List.mem_cons_of_mem _ (List.mem_cons_of_mem _ (List.mem_cons_of_mem _ (List.mem_cons_of_mem _ (List.mem_cons_self))))))
theorem mm7 {x a0 a1 a2 a3 a4 a5 a6: α} {l : List α} : x ∈ a0 :: a1 :: a2 :: a3 :: a4 :: a5 :: a6 :: x :: l := List.mem_cons_of_mem _ (List.mem_cons_of_mem _ (List.mem_cons_of_mem _ (List.mem_cons_of_mem _ (List.mem_cons_of_mem _ (List.mem_cons_of_mem _ (List.mem_cons_of_mem _ (List.mem_cons_self)))))))
theorem mm8 {x a0 a1 a2 a3 a4 a5 a6 a7: α} {l : List α} : x ∈ a0 :: a1 :: a2 :: a3 :: a4 :: a5 :: a6 :: a7 :: x :: l := List.mem_cons_of_mem _ (List.mem_cons_of_mem _ (List.mem_cons_of_mem _ (List.mem_cons_of_mem _ (List.mem_cons_of_mem _ (List.mem_cons_of_mem _ (List.mem_cons_of_mem _ (List.mem_cons_of_mem _ (List.mem_cons_self))))))))
theorem mm9 {x a0 a1 a2 a3 a4 a5 a6 a7 a8: α} {l : List α} : x ∈ a0 :: a1 :: a2 :: a3 :: a4 :: a5 :: a6 :: a7 :: a8 :: x :: l := List.mem_cons_of_mem _ (List.mem_cons_of_mem _ (List.mem_cons_of_mem _ (List.mem_cons_of_mem _ (List.mem_cons_of_mem _ (List.mem_cons_of_mem _ (List.mem_cons_of_mem _ (List.mem_cons_of_mem _ (List.mem_cons_of_mem _ (List.mem_cons_self)))))))))
end
theorem uu0 {r r' : Res} {l : List Res} : Upd r r' (r :: l) (r' :: l) := Upd.here
theorem uu1 {r r' a0: Res} {l : List Res} : Upd r r' (a0 :: r :: l) (a0 :: r' :: l) := Upd.there (Upd.here)
theorem uu2 {r r' a0 a1: Res} {l : List Res} : Upd r r' (a0 :: a1 :: r :: l) (a0 :: a1 :: r' :: l) := Upd.there (Upd.there (Upd.here))
theorem uu3 {r r' a0 a1 a2: Res} {l : List Res} : Upd r r' (a0 :: a1 :: a2 :: r :: l) (a0 :: a1 :: a2 :: r' :: l) := Upd.there (Upd.there (Upd.there (Upd.here)))
theorem uu4 {r r' a0 a1 a2 a3: Res} {l : List Res} : Upd r r' (a0 :: a1 :: a2 :: a3 :: r :: l) (a0 :: a1 :: a2 :: a3 :: r' :: l) := Upd.there (Upd.there (Upd.there (Upd.there (Upd.here))))
theorem uu5 {r r' a0 a1 a2 a3 a4: Res} {l : List Res} : Upd r r' (a0 :: a1 :: a2 :: a3 :: a4 :: r :: l) (a0 :: a1 :: a2 :: a3 :: a4 :: r' :: l) := Upd.there (Upd.there (Upd.there (Upd.there (Upd.there (Upd.here)))))
theorem uu6 {r r' a0 a1 a2 a3 a4 a5: Res} {l : List Res} : Upd r r' (a0 :: a1 :: a2 :: a3 :: a4 :: a5 :: r :: l) (a0 :: a1 :: a2 :: a3 :: a4 :: a5 :: r' :: l) := Upd.there (Upd.there (Upd.there (Upd.there (Upd.there (Upd.there (Upd.here))))))
theorem uu7 {r r' a0 a1 a2 a3 a4 a5 a6: Res} {l : List Res} : Upd r r' (a0 :: a1 :: a2 :: a3 :: a4 :: a5 :: a6 :: r :: l) (a0 :: a1 :: a2 :: a3 :: a4 :: a5 :: a6 :: r' :: l) := Upd.there (Upd.there (Upd.there (Upd.there (Upd.there (Upd.there (Upd.there (Upd.here)))))))
theorem uu8 {r r' a0 a1 a2 a3 a4 a5 a6 a7: Res} {l : List Res} : Upd r r' (a0 :: a1 :: a2 :: a3 :: a4 :: a5 :: a6 :: a7 :: r :: l) (a0 :: a1 :: a2 :: a3 :: a4 :: a5 :: a6 :: a7 :: r' :: l) := Upd.there (Upd.there (Upd.there (Upd.there (Upd.there (Upd.there (Upd.there (Upd.there (Upd.here))))))))
theorem uu9 {r r' a0 a1 a2 a3 a4 a5 a6 a7 a8: Res} {l : List Res} : Upd r r' (a0 :: a1 :: a2 :: a3 :: a4 :: a5 :: a6 :: a7 :: a8 :: r :: l) (a0 :: a1 :: a2 :: a3 :: a4 :: a5 :: a6 :: a7 :: a8 :: r' :: l) := Upd.there (Upd.there (Upd.there (Upd.there (Upd.there (Upd.there (Upd.there (Upd.there (Upd.there (Upd.here)))))))))
end Go.Proofs.Ytaeapoidigglnaa
