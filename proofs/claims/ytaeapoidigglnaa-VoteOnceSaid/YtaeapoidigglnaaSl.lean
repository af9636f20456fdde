/-
  Slices of the call's own: built, appended to, read; a callee's new memory. Conditions: the form's own reach.
-/
import Derived.Test.YtaeapoidigglnaaRules
import Derived.Deep.Upon
namespace Go.Proofs.Ytaeapoidigglnaa
open Go.RowKit

/-- the cells behind a slice's address -/
def Rd (w : World) (a : Option Addr) (xs : List Value) : Prop := ∀ j u, xs[j]? = some u → ∃ b off, a = some ⟨b, off, none⟩ ∧ w.cell? ⟨b, off + j, none⟩ = some u

theorem Rd.nil (w : World) (a : Option Addr) : Rd w a [] := fun _ _ h => by simp at h
theorem Rd.below {w w' : World} {a : Option Addr} {xs : List Value} (h : Rd w a xs) (hb : Below w.heap.size w w') : Rd w' a xs := fun j u hj => by
  obtain ⟨b, off, ha, hc⟩ := h j u hj
  exact ⟨b, off, ha, (hb.cell (World.block_lt_of_cell? _ _ hc)).trans hc⟩

/-- a slice of the call's own -/
def osl (e : TypeId) (size : Nat) (v : Value) (n : Nat) (xs : List Value) : Res :=
  ⟨v.ownBlock.toList, fun w => w.ownsRow 0 e size v n xs, fun w w' h hs => by
    refine ⟨hs.1, ?_⟩
    rcases hs.2 with h0 | ⟨g, cap, cur, rfl, hb, hg, rest⟩
    · exact .inl h0
    · exact .inr ⟨g, cap, cur, rfl, hb, (h g (by simp [Value.ownBlock])).trans hg, rest⟩⟩

theorem osl_rd {w : World} {e : TypeId} {size n c : Nat} {a : Option Addr} {n' : Nat} {xs : List Value} (h : w.ownsRow 0 e size (.slice a n' c) n xs) : Rd w a xs := by
  intro j u hj
  rcases h.2 with ⟨hv, rfl⟩ | ⟨g, cap, cur, hv, _, hg, _, _, _, ht⟩
  · have : xs = [] := List.eq_nil_of_length_eq_zero (by simpa using h.1)
    subst this; simp at hj
  · cases hv
    refine ⟨g, 0, rfl, ?_⟩
    have := h.cells (g := g) rfl j u hj
    rwa [addr_add'] at this

/-- a type of slices: its elements' type, cells, bytes -/
structure SlT (P : Program) (t e : TypeId) (size bytes : Nat) (z : Value) : Prop where
  und : P.underlying t = some (.slice e)
  inf : (P.info? e).map (fun i => (i.zero, i.size, i.bytes)) = some (some z, size, bytes)
  zc : z.cells.size = size
  pos : 0 < size

theorem SlT.info {P : Program} {t e size bytes : Nat} {z : Value} (h : SlT P t e size bytes z) : ∃ i, P.info? e = some i ∧ i.zero = some z ∧ i.size = size ∧ i.bytes = bytes := by
  obtain ⟨i, hi, he⟩ := Option.map_eq_some_iff.1 h.inf
  simp only [Prod.mk.injEq] at he
  exact ⟨i, hi, he.1, he.2.1, he.2.2⟩

section
variable {P : Program}

theorem run_append_osl {w : World} {t e size bytes : Nat} {z : Value} (hT : SlT P t e size bytes z) (ty : TypeId) {a0 : Option Addr} {n c0 : Nat} {xs : List Value} (hown : w.ownsRow 0 e size (.slice a0 n c0) n xs)
    {ao : Option Addr} {q c : Nat} {news : List Value} (hr : Rd w ao news) (hl : news.length = q * size) (h1 : ∀ u ∈ news, u.oneCell' = true) (h63 : n + q ≤ maxLen) (hbytes : (n + q) * bytes ≤ 140737488355328) :
    ∃ a' c' w', (Builtin.append_ #[t, t] ty #[.slice a0 n c0, .slice ao q c]).run P w = .ok (.slice a' (n + q) c') w' ∧ w'.ownsRow 0 e size (.slice a' (n + q) c') (n + q) (xs ++ news) ∧
      Step (Value.ownBlock (.slice a0 n c0)).toList w w' ∧ (∀ k, (Value.ownBlock (.slice a' (n + q) c')) = some k → (Value.ownBlock (.slice a0 n c0)) = some k ∨ (w.heap.size ≤ k ∧ k < w'.heap.size)) := by
  obtain ⟨i, hi, hz, rfl, rfl⟩ := hT.info
  have ht := hT.und
  have hsz := hT.pos
  have hzs := hT.zc
  have hlen : (xs ++ news).length = (n + q) * i.size := by rw [List.length_append, hown.1, hl, Nat.add_mul]
  -- nothing is appended
  have nothing : q = 0 → Src P i.size t (.slice ao q c) 0 [] w → n ≤ c0 → (Builtin.append_ #[t, t] ty #[.slice a0 n c0, .slice ao q c]).run P w = .ok (.slice a0 (n + q) c0) w := by
    intro hq hs hle
    subst hq
    exact run_append_nothing w t t ty e i ht hi a0 n c0 hle _ hs
  have same : q = 0 → n ≤ c0 → Src P i.size t (.slice ao q c) 0 [] w → ∃ a' c' w', (Builtin.append_ #[t, t] ty #[.slice a0 n c0, .slice ao q c]).run P w = .ok (.slice a' (n + q) c') w' ∧ w'.ownsRow 0 e i.size (.slice a' (n + q) c') (n + q) (xs ++ news) ∧
      Step (Value.ownBlock (.slice a0 n c0)).toList w w' ∧ (∀ k, (Value.ownBlock (.slice a' (n + q) c')) = some k → (Value.ownBlock (.slice a0 n c0)) = some k ∨ (w.heap.size ≤ k ∧ k < w'.heap.size)) := by
    intro hq hle hs
    have hrn := nothing hq hs hle
    subst hq
    have hn : news = [] := List.eq_nil_of_length_eq_zero (by simpa using hl)
    subst hn
    exact ⟨a0, c0, w, hrn, by simpa using hown, .refl _ _, fun k hk => .inl (by cases a0 <;> exact hk)⟩
  have hle : n ≤ c0 := by
    rcases hown.2 with ⟨hv, rfl⟩ | ⟨g, cap, cur, hv, _, _, hc, _⟩
    · exact Nat.zero_le _
    · cases hv; exact hc
  cases ao with
  | none =>
    have hn : news = [] := by
      cases news with
      | nil => rfl
      | cons u l => obtain ⟨_, _, h, _⟩ := hr 0 u rfl; cases h
    subst hn
    have hq : q = 0 := by
      have h0 : q * i.size = 0 := by simpa using hl.symm
      rcases Nat.mul_eq_zero.1 h0 with h | h
      · exact h
      · omega
    exact same hq hle (by subst hq; exact Src.ofNil w ht c)
  | some ad =>
    have hnews : ∀ j u, news[j]? = some u → w.cell? (ad.add j) = some u := by
      intro j u hj
      obtain ⟨b, off, hab, hc⟩ := hr j u hj
      obtain rfl := Option.some.inj hab
      rw [addr_add']; exact hc
    by_cases hq : q = 0
    · refine same hq hle ?_
      subst hq
      have hn : news = [] := List.eq_nil_of_length_eq_zero (by simpa using hl)
      exact Src.ofSlice w ht ad 0 c [] (by simp) (fun _ _ h => by simp at h) (fun _ h => by simp at h)
    · have grown : ∀ (old : Nat), old < n + q → ∀ (row : List Nat),
          (w.drew.alloc (.cells (xs.toArray ++ news.toArray ++ Builtin.zeroCells z.cells (grownCap w (n + q) old e - (n + q))) e)).ownsRow 0 e i.size
            (.slice (some ⟨w.heap.size, 0, none⟩) (n + q) (grownCap w (n + q) old e)) (n + q) (xs ++ news) ∧
          Step row w (w.drew.alloc (.cells (xs.toArray ++ news.toArray ++ Builtin.zeroCells z.cells (grownCap w (n + q) old e - (n + q))) e)) := by
        intro old ho row
        have hge := grownCap_ge w (n + q) old e
        have hcm : grownCap w (n + q) old e ≤ maxLen := grownCap_le_maxLen w (n + q) old e h63
        refine ⟨⟨hlen, .inr ⟨w.heap.size, _, _, rfl, Nat.zero_le _, heap_alloc_new w.drew _, hge, hcm, ?_, ?_⟩⟩, ⟨rfl, rfl, rfl, by simp, fun k hk _ => _root_.Go.heap_alloc_old w.drew _ hk⟩⟩
        · simp only [Array.size_append, List.size_toArray, size_zeroCells, hzs, hown.1, hl, ← Nat.add_mul]
          congr 1
          omega
        · simp only [Array.toList_append, List.append_assoc]
          rw [← List.append_assoc, ← hlen]
          exact List.take_left
      have hm63 : n + q ≤ 9223372036854775807 := by simp only [maxLen] at h63; omega
      rcases hown.2 with ⟨hv, rfl⟩ | ⟨g, cap, cur, hv, hbg, hg, hnc, hcm, hcs, htake⟩
      · cases hv
        have hx : xs = [] := List.eq_nil_of_length_eq_zero (by simpa using hown.1)
        subst hx
        have hrr := run_append_nil (P := P) w t ty e i z ht hi hz ad q c news hl hnews (by omega) (by omega) (by have hb := hbytes; simp only [Nat.zero_add] at hb; omega)
        have hgr := grown 0 (by omega) (Value.ownBlock (.slice none 0 0)).toList
        simp only [Nat.zero_add, List.nil_append, Array.empty_append] at hgr hrr ⊢
        exact ⟨_, _, _, hrr, hgr.1, hgr.2, fun k hk => .inr (by
          have hk : w.heap.size = k := by simpa [Value.ownBlock] using hk
          subst hk; simp)⟩
      · cases hv
        by_cases hroom : n + q ≤ c0
        · have hfit : n * i.size + news.length ≤ cur.size := by rw [hl, hcs, ← Nat.add_mul]; exact Nat.mul_le_mul_right _ hroom
          have hrr := run_append_room (P := P) w t ty e i ht hi g n c0 cur hg ad q c news hl hnews h1 hroom hfit
          refine ⟨_, _, _, hrr, ⟨hlen, .inr ⟨g, c0, _, rfl, hbg, setRow_heap w g cur _ e _ hg, hroom, hcm, ?_, ?_⟩⟩, ⟨rfl, rfl, rfl, by simp, fun k _ hk => setRow_other w g k _ (fun e => hk (by simp [Value.ownBlock, e]))⟩, fun k hk => .inl (by simpa [Value.ownBlock] using hk)⟩
          · simp only [List.size_toArray, List.length_append, List.length_take, List.length_drop, Array.length_toList]
            omega
          · rw [htake, ← hlen]
            exact List.take_left
        · have holds : ∀ j u, xs[j]? = some u → w.cell? ((⟨g, 0, none⟩ : Addr).add j) = some u := hown.cells (g := g) rfl
          have hrr := run_append_grow (P := P) w t ty e i z ht hi hz ⟨g, 0, none⟩ n c0 xs hown.1 holds ad q c news hl hnews (by omega) (by omega) (growslice_fits (by omega) hbytes)
          have hgr := grown c0 (by omega) (Value.ownBlock (.slice (some ⟨g, 0, none⟩) n c0)).toList
          exact ⟨_, _, _, hrr, hgr.1, hgr.2, fun k hk => .inr (by
            have hk : w.heap.size = k := by simpa [Value.ownBlock] using hk
            subst hk; simp)⟩

variable {ops : Array Oper} {Q : Exit → Act → World → Prop} {a : Act} {rest : List Oper} {T : List Nat} {w0 w : World} {m m1 : List Res} {dst : Option Tmp} {ty : TypeId} {pos : String} {af : Array Edge}

theorem Inv.nilSl (h : Inv T w0 w m) (e : TypeId) (size : Nat) : Inv T w0 w (osl e size (.slice none 0 0) 0 [] :: m) :=
  h.new (.refl _ _) (World.ownsRow_nil w 0 e size) (by simp [osl, Value.ownBlock]) (by simp [osl, Value.ownBlock])

/-- what a callee made, beside what was owned -/
theorem Inv.seq {w' : World} (h : Inv T w0 w m) (hJ : Inv [] w w' m1) : Inv T w0 w' (m1 ++ m) := by
  refine ⟨hJ.os.trans h.os, hJ.tape.trans h.tape, hJ.output.trans h.output, Nat.le_trans h.size hJ.size, fun k hk hkT => (hJ.old k (Nat.lt_of_lt_of_le hk h.size) (by simp)).trans (h.old k hk hkT), fun r hr => ?_, fun k hk => ?_, ?_⟩
  · rcases List.mem_append.1 hr with hr | hr
    · exact hJ.sat r hr
    · exact r.loc w w' (fun k hk => hJ.old k (h.mine k (mem_owned.2 ⟨r, hr, hk⟩)).2 (by simp)) (h.sat r hr)
  · rw [owned_append] at hk
    rcases List.mem_append.1 hk with hk | hk
    · obtain ⟨h1, h2⟩ := hJ.mine k hk
      rcases h1 with h1 | h1
      · exact ⟨.inl (Nat.le_trans h.size h1), h2⟩
      · simp at h1
    · have := h.mine k hk
      exact ⟨this.1, Nat.lt_of_lt_of_le this.2 hJ.size⟩
  · rw [owned_append, List.nodup_append]
    refine ⟨hJ.apart, h.apart, fun k hk j hj => ?_⟩
    have h1 := (hJ.mine k hk).1
    have h2 := (h.mine j hj).2
    rcases h1 with h1 | h1
    · omega
    · simp at h1

/-- append onto a slice of the call's own -/
theorem wpList_append_osl {m' : Res → List Res} {s x : Operand} {t e size bytes n q c0 c : Nat} {z : Value} {a0 ao : Option Addr} {xs news : List Value} (hI : Inv T w0 w m) (hs : a.eval s = .slice a0 n c0) (hx : a.eval x = .slice ao q c)
    (hT : SlT P t e size bytes z) (hu : ∀ r', Upd (osl e size (.slice a0 n c0) n xs) r' m (m' r')) (hr : Rd w ao news) (hl : news.length = q * size) (h1 : ∀ u ∈ news, u.oneCell' = true) (h63 : n + q ≤ maxLen) (hbytes : (n + q) * bytes ≤ 140737488355328)
    (k : ∀ a' c' w', Inv T w0 w' (m' (osl e size (.slice a' (n + q) c') (n + q) (xs ++ news))) → wpList P ops Q rest (a.put dst (.slice a' (n + q) c')) w') :
    wpList P ops Q (⟨dst, .call { callee := .builtin .append, args := #[s, x], argTypes := #[t, t] }, ty, pos, af, none⟩ :: rest) a w :=
  wpList_plain rfl fun K hK => by
    have hown : w.ownsRow 0 e size (.slice a0 n c0) n xs := by
      obtain ⟨m1, m2, rfl, _⟩ := (hu (osl e size (.slice a0 n c0) n xs)).split
      exact hI.sat (osl e size (.slice a0 n c0) n xs) (by simp)
    obtain ⟨a', c', w', hrun, ho, hst, hk⟩ := run_append_osl (P := P) hT ty hown hr hl h1 h63 hbytes (c := c)
    unfold Oper.wp execOp
    simp only [resolve, invoke, builtin, Sem.run_bind, Sem.run_pure, Result.andThen_ok, List.map_toArray, List.map_cons, List.map_nil, hs, hx, hrun]
    refine hK _ _ (k a' c' w' (hI.upd (hu _) hst ho (fun j hj => ?_) ?_))
    · have hj : Value.ownBlock (.slice a' (n + q) c') = some j := by simpa [osl] using hj
      rcases hk j hj with h | h
      · exact .inl (by simp [osl, h])
      · exact .inr h
    · cases a' <;> simp [osl, Value.ownBlock]

/-- a slice that is written out -/
theorem wpList_bslice {t e size bytes len : Nat} {z : Value} {parts : Array (Nat × Operand)} {cs : List Value} (hI : Inv T w0 w m) (hT : SlT P t e size bytes z) (hb : len * size ≤ 16777216) (hb2 : 0 < len)
    (hf : Instr.fill (fun i => some (i * size, size)) ((Array.range (len * size)).map (z.cells[· % z.cells.size]!)) (parts.map fun (i, x) => (i, a.eval x)).toList = some cs.toArray) (hl : cs.length = len * size)
    (k : ∀ b w', Inv T w0 w' (osl e size (.slice (some ⟨b, 0, none⟩) len len) len cs :: m) → wpList P ops Q rest (a.put dst (.slice (some ⟨b, 0, none⟩) len len)) w') :
    wpList P ops Q (⟨dst, .buildSlice t len parts, ty, pos, af, none⟩ :: rest) a w :=
  wpList_plain rfl fun K hK => by
    obtain ⟨i, hi, hz, rfl, rfl⟩ := hT.info
    have hpos := hT.pos
    have hne : ¬ (len * i.size = 0) := by
      intro h
      rcases Nat.mul_eq_zero.1 h with h | h <;> omega
    have hb' : ¬ (len * i.size > 2 ^ 24) := by omega
    unfold Oper.wp execOp
    have hrun : (Instr.buildSlice t len (parts.map fun (i, x) => (i, a.eval x))).run P w = .ok (.slice (some ⟨w.heap.size, 0, none⟩) len len) (w.alloc (.cells cs.toArray e)) := by
      have hzv : (zeroValue e).run P w = .ok z w := by simp [zeroValue, typeInfo, hi, hz]
      simp only [Instr.buildSlice, Sem.run_bind, run_underlying hT.und, Result.andThen_ok, run_sizeOf' (show (P.info? e).map (·.size) = some i.size by rw [hi]; rfl), if_neg hb', if_neg hne, Sem.run_pure, hzv, hf]
      rfl
    simp only [Sem.run_bind, hrun, Result.andThen_ok, Sem.run_pure]
    refine hK _ _ (k w.heap.size _ ?_)
    refine hI.new ⟨rfl, rfl, rfl, by simp, fun k hk _ => _root_.Go.heap_alloc_old w _ hk⟩ ?_ (by simp [osl, Value.ownBlock]) (by simp [osl, Value.ownBlock])
    refine ⟨hl, .inr ⟨w.heap.size, len, _, rfl, Nat.zero_le _, heap_alloc_new w _, Nat.le_refl _, ?_, ?_, ?_⟩⟩
    · simp only [maxLen]
      have : len * 1 ≤ len * i.size := Nat.mul_le_mul_left _ hpos
      omega
    · simp [hl]
    · simp [← hl]

theorem wpList_bslice1 {t e bytes : Nat} {x0 : Operand} {v0 : Int} (hI : Inv T w0 w m) (hT : SlT P t e 1 bytes (.int .i64 0)) (h0 : a.eval x0 = .int .i64 v0)
    (k : ∀ b w', Inv T w0 w' (osl e 1 (.slice (some ⟨b, 0, none⟩) 1 1) 1 [.int .i64 v0] :: m) → wpList P ops Q rest (a.put dst (.slice (some ⟨b, 0, none⟩) 1 1)) w') :
    wpList P ops Q (⟨dst, .buildSlice t 1 #[(0, x0)], ty, pos, af, none⟩ :: rest) a w :=
  wpList_bslice hI hT (by decide) (by decide) (by simp [Instr.fill, h0, Value.cells, show Array.range 1 = #[0] from by decide]) (by rfl) k
theorem wpList_bslice2 {t e bytes : Nat} {x0 x1 : Operand} {v0 v1 : Int} (hI : Inv T w0 w m) (hT : SlT P t e 1 bytes (.int .i64 0)) (h0 : a.eval x0 = .int .i64 v0) (h1 : a.eval x1 = .int .i64 v1)
    (k : ∀ b w', Inv T w0 w' (osl e 1 (.slice (some ⟨b, 0, none⟩) 2 2) 2 [.int .i64 v0, .int .i64 v1] :: m) → wpList P ops Q rest (a.put dst (.slice (some ⟨b, 0, none⟩) 2 2)) w') :
    wpList P ops Q (⟨dst, .buildSlice t 2 #[(0, x0), (1, x1)], ty, pos, af, none⟩ :: rest) a w :=
  wpList_bslice hI hT (by decide) (by decide) (by simp [Instr.fill, h0, h1, Value.cells, show Array.range 2 = #[0, 1] from by decide]) (by rfl) k

/-- what an owned slice reads as -/
theorem Inv.rd {e size n n' c : Nat} {a' : Option Addr} {xs : List Value} (h : Inv T w0 w m) (hm : osl e size (.slice a' n' c) n xs ∈ m) : Rd w a' xs := osl_rd (h.sat _ hm)
theorem Inv.rd0 {a' : Option Addr} {xs : List Value} (h : Inv [] w0 w m) (hr : Rd w0 a' xs) : Rd w a' xs := hr.below h.below
end
end Go.Proofs.Ytaeapoidigglnaa
