/-
  Memory of integers: blocks and values whose cells are all integers, told by lists of integers. No condition.
-/
import Derived.Test.YtaeapoidigglnaaFlat
namespace Go.Proofs.Ytaeapoidigglnaa
open Go.RowKit

/-- a value of integers -/
def ia (zs : List Int) : Value := .agg (zs.map (Value.int .i64)).toArray
/-- a block of integers -/
def ib (b : Nat) (e : TypeId) (zs : List Int) : Res := blk b e (zs.map (Value.int .i64))
/-- the integers from off on are vs -/
def spl (zs : List Int) (off : Nat) (vs : List Int) : List Int := zs.take off ++ vs ++ zs.drop (off + vs.length)
/-- the i-th -/
def gi (zs : List Int) (i : Nat) : Int := zs.getD i 0
/-- n of them, from off on -/
def sub (zs : List Int) (off n : Nat) : List Int := (zs.drop off).take n
theorem sub_len (zs : List Int) (off n : Nat) : (sub zs off n).length = min n (zs.length - off) := by simp [sub]
theorem gi_sub (zs : List Int) (off n i : Nat) (h : i < n) : gi (sub zs off n) i = gi zs (off + i) := by
  simp [gi, sub, List.getElem?_take, h]
/-- so many naughts -/
def nau (n : Nat) : List Int := List.replicate n 0
theorem nau_len (n : Nat) : (nau n).length = n := by simp [nau]
theorem spl_len (zs vs : List Int) (off : Nat) : (spl zs off vs).length = min off zs.length + vs.length + (zs.length - (off + vs.length)) := by simp [spl]; omega

theorem ia_cells (zs : List Int) : (ia zs).cells = (zs.map (Value.int .i64)).toArray := rfl
theorem ia_inj {zs ws : List Int} (h : ia zs = ia ws) : zs = ws := by
  have h1 : (zs.map (Value.int .i64)).map intOf = (ws.map (Value.int .i64)).map intOf := by
    have := congrArg (fun v => v.cells.toList.map intOf) h
    simpa [ia_cells] using this
  have e : intOf ∘ (Value.int .i64) = id := by funext x; rfl
  simpa [e] using h1
theorem splice_ints (zs : List Int) (off : Nat) (vs : List Int) : splice (zs.map (Value.int .i64)) off (vs.map (Value.int .i64)) = (spl zs off vs).map (Value.int .i64) := by
  simp [splice, spl, List.map_take, List.map_drop]
theorem spl_one (zs : List Int) (off : Nat) (v : Int) (h : off < zs.length) : spl zs off [v] = zs.set off v := by
  rw [List.set_eq_take_append_cons_drop, if_pos h]
  simp [spl]
theorem spl_all (zs vs : List Int) (h : vs.length = zs.length) : spl zs 0 vs = vs := by simp [spl, h]
theorem one_ints (vs : List Int) : ∀ u ∈ vs.map (Value.int .i64), u.oneCell' = true := by
  intro u hu
  obtain ⟨z, _, rfl⟩ := List.mem_map.1 hu
  rfl

section
variable {P : Program} {ops : Array Oper} {Q : Exit → Act → World → Prop} {a : Act} {rest : List Oper} {T : List Nat} {w0 w : World} {m m' : List Res} {dst : Option Tmp} {ty : TypeId} {pos : String} {af : Array Edge}

theorem wpList_load_ia {x : Operand} {t n b off : Nat} {e : TypeId} {zs : List Int} (hI : Inv T w0 w m) (hx : a.eval x = .pointer (some ⟨b, off, none⟩)) (hm : ib b e zs ∈ m) (hT : AggT P t n) (hl : off + n ≤ zs.length)
    (k : wpList P ops Q rest (a.put dst (ia (sub zs off n))) w) : wpList P ops Q (⟨dst, .load t x, ty, pos, af, none⟩ :: rest) a w := by
  refine wpList_load_agg hI hx hm hT (by simpa using hl) ?_
  rw [← List.map_drop, ← List.map_take]
  exact k
theorem wpList_load_iw {x : Operand} {t n b : Nat} {e : TypeId} {zs : List Int} (hI : Inv T w0 w m) (hx : a.eval x = .pointer (some ⟨b, 0, none⟩)) (hm : ib b e zs ∈ m) (hT : AggT P t n) (hl : zs.length = n)
    (k : wpList P ops Q rest (a.put dst (ia zs)) w) : wpList P ops Q (⟨dst, .load t x, ty, pos, af, none⟩ :: rest) a w := by
  refine wpList_load_ia hI hx hm hT (by omega) ?_
  subst hl
  rw [show sub zs 0 zs.length = zs from by simp [sub]]
  exact k
theorem wpList_load_i1 {x : Operand} {t b off : Nat} {e : TypeId} {zs : List Int} (hI : Inv T w0 w m) (hx : a.eval x = .pointer (some ⟨b, off, none⟩)) (hm : ib b e zs ∈ m) (hT : OneT P t) (hl : off < zs.length)
    (k : wpList P ops Q rest (a.put dst (.int .i64 (gi zs off))) w) : wpList P ops Q (⟨dst, .load t x, ty, pos, af, none⟩ :: rest) a w := by
  refine wpList_load_one hI hx hm hT (v := .int .i64 (gi zs off)) ?_ k
  simp [hl, gi]
theorem wpList_store_ia {x y : Operand} {t n b off : Nat} {e : TypeId} {zs vs : List Int} (hI : Inv T w0 w m) (hx : a.eval x = .pointer (some ⟨b, off, none⟩)) (hv : a.eval y = ia vs) (hu : Upd (ib b e zs) (ib b e (spl zs off vs)) m m')
    (hT : AggT P t n) (hl : vs.length = n) (hoff : off + n ≤ zs.length)
    (k : ∀ w', Inv T w0 w' m' → wpList P ops Q rest (a.put dst undef) w') : wpList P ops Q (⟨dst, .store t x y, ty, pos, af, none⟩ :: rest) a w :=
  wpList_store hI hx (vs := vs.map (Value.int .i64)) (by rw [hv]; rfl) (by rw [splice_ints]; exact hu) hT.size (by simpa using hl) (by simpa using hoff) (one_ints vs) k
theorem wpList_store_iw {x y : Operand} {t n b : Nat} {e : TypeId} {zs vs : List Int} (hI : Inv T w0 w m) (hx : a.eval x = .pointer (some ⟨b, 0, none⟩)) (hv : a.eval y = ia vs) (hu : Upd (ib b e zs) (ib b e vs) m m')
    (hT : AggT P t n) (hl : vs.length = n) (hoff : zs.length = n)
    (k : ∀ w', Inv T w0 w' m' → wpList P ops Q rest (a.put dst undef) w') : wpList P ops Q (⟨dst, .store t x y, ty, pos, af, none⟩ :: rest) a w :=
  wpList_store_ia hI hx hv (by rw [spl_all zs vs (by omega)]; exact hu) hT hl (by omega) k
theorem wpList_store_i1 {x y : Operand} {t b off : Nat} {e : TypeId} {zs : List Int} {v : Int} (hI : Inv T w0 w m) (hx : a.eval x = .pointer (some ⟨b, off, none⟩)) (hv : a.eval y = .int .i64 v) (hu : Upd (ib b e zs) (ib b e (zs.set off v)) m m')
    (hT : OneT P t) (hoff : off < zs.length)
    (k : ∀ w', Inv T w0 w' m' → wpList P ops Q rest (a.put dst undef) w') : wpList P ops Q (⟨dst, .store t x y, ty, pos, af, none⟩ :: rest) a w :=
  wpList_store hI hx (vs := [Value.int .i64 v]) (by rw [hv]; rfl) (by rw [← List.map_singleton, splice_ints, spl_one zs off v hoff]; exact hu) hT.size (by rfl) (by simp; omega) (by simp [Value.oneCell']) k
/-- a store of one cell, whatever it is -/
theorem wpList_store_1 {x y : Operand} {t b off : Nat} {e : TypeId} {cs : List Value} {v : Value} (hI : Inv T w0 w m) (hx : a.eval x = .pointer (some ⟨b, off, none⟩)) (hv : a.eval y = v) (h1 : v.oneCell' = true) (hc : v.cells = #[v]) (hu : Upd (blk b e cs) (blk b e (cs.set off v)) m m')
    (hT : OneT P t) (hoff : off < cs.length)
    (k : ∀ w', Inv T w0 w' m' → wpList P ops Q rest (a.put dst undef) w') : wpList P ops Q (⟨dst, .store t x y, ty, pos, af, none⟩ :: rest) a w :=
  wpList_store hI hx (vs := [v]) (by rw [hv, hc]) (by
    have : splice cs off [v] = cs.set off v := by
      rw [List.set_eq_take_append_cons_drop, if_pos hoff]
      simp [splice]
    rw [this]; exact hu) hT.size (by rfl) (by omega) (by intro u hu; obtain rfl := List.mem_singleton.1 hu; exact h1) k
theorem wpList_store_b {x y : Operand} {t b off : Nat} {e : TypeId} {cs : List Value} {v : Bool} (hI : Inv T w0 w m) (hx : a.eval x = .pointer (some ⟨b, off, none⟩)) (hv : a.eval y = .bool v) (hu : Upd (blk b e cs) (blk b e (cs.set off (.bool v))) m m')
    (hT : OneT P t) (hoff : off < cs.length)
    (k : ∀ w', Inv T w0 w' m' → wpList P ops Q rest (a.put dst undef) w') : wpList P ops Q (⟨dst, .store t x y, ty, pos, af, none⟩ :: rest) a w :=
  wpList_store_1 hI hx hv rfl rfl hu hT hoff k
theorem wpList_store_p {x y : Operand} {t b off : Nat} {e : TypeId} {cs : List Value} {v : Option Addr} (hI : Inv T w0 w m) (hx : a.eval x = .pointer (some ⟨b, off, none⟩)) (hv : a.eval y = .pointer v) (hu : Upd (blk b e cs) (blk b e (cs.set off (.pointer v))) m m')
    (hT : OneT P t) (hoff : off < cs.length)
    (k : ∀ w', Inv T w0 w' m' → wpList P ops Q rest (a.put dst undef) w') : wpList P ops Q (⟨dst, .store t x y, ty, pos, af, none⟩ :: rest) a w :=
  wpList_store_1 hI hx hv rfl rfl hu hT hoff k
theorem wpList_store_s {x y : Operand} {t b off n c : Nat} {e : TypeId} {cs : List Value} {v : Option Addr} (hI : Inv T w0 w m) (hx : a.eval x = .pointer (some ⟨b, off, none⟩)) (hv : a.eval y = .slice v n c) (hu : Upd (blk b e cs) (blk b e (cs.set off (.slice v n c))) m m')
    (hT : OneT P t) (hoff : off < cs.length)
    (k : ∀ w', Inv T w0 w' m' → wpList P ops Q rest (a.put dst undef) w') : wpList P ops Q (⟨dst, .store t x y, ty, pos, af, none⟩ :: rest) a w :=
  wpList_store_1 hI hx hv rfl rfl hu hT hoff k
theorem wpList_box_ia {x : Operand} {t : TypeId} {zs : List Int} (hI : Inv T w0 w m) (hv : a.eval x = ia zs)
    (k : ∀ b w', Inv T w0 w' (ib b t zs :: m) → wpList P ops Q rest (a.put dst (.pointer (some ⟨b, 0, none⟩))) w') : wpList P ops Q (⟨dst, .box t x, ty, pos, af, none⟩ :: rest) a w :=
  wpList_box hI (cs := zs.map (Value.int .i64)) (by rw [hv]; rfl) k

/-- the type's zero value is so many naughts -/
def ZeroI (P : Program) (t n : Nat) : Prop := (P.info? t).map (·.zero) = some (some (ia (nau n)))
theorem wpList_alloc_ia {t n : Nat} (hI : Inv T w0 w m) (hz : ZeroI P t n)
    (k : ∀ b w', Inv T w0 w' (ib b t (nau n) :: m) → wpList P ops Q rest (a.put dst (.pointer (some ⟨b, 0, none⟩))) w') : wpList P ops Q (⟨dst, .alloc t, ty, pos, af, none⟩ :: rest) a w :=
  wpList_alloc hI hz rfl k

theorem eqv_ints (zs ws : List Int) : eqv (zs.map (Value.int .i64)) (ws.map (Value.int .i64)) = decide (zs = ws) := by
  unfold eqv
  have : intOf ∘ (Value.int .i64) = id := by funext x; rfl
  simp [this]
theorem isI_ints (zs : List Int) : ∀ v ∈ zs.map (Value.int .i64), isI v := by
  intro v hv
  obtain ⟨z, _, rfl⟩ := List.mem_map.1 hv
  exact ⟨z, rfl⟩
theorem wpList_eq_ia {x y : Operand} {t t' n : Nat} {zs ws : List Int} (hx : a.eval x = ia zs) (hy : a.eval y = ia ws) (hT : AggT P t n) (hF : FlatT P t n) (h1 : zs.length = n) (h2 : ws.length = n)
    (k : wpList P ops Q rest (a.put dst (.bool (decide (zs = ws)))) w) : wpList P ops Q (⟨dst, .binOp .eql t x y t', ty, pos, af, none⟩ :: rest) a w :=
  wpList_eql hx hy hT hF (isI_ints _) (isI_ints _) (by simpa using h1) (by simpa using h2) (by rw [eqv_ints]; exact k)
theorem wpList_ne_ia {x y : Operand} {t t' n : Nat} {zs ws : List Int} (hx : a.eval x = ia zs) (hy : a.eval y = ia ws) (hT : AggT P t n) (hF : FlatT P t n) (h1 : zs.length = n) (h2 : ws.length = n)
    (k : wpList P ops Q rest (a.put dst (.bool (!decide (zs = ws)))) w) : wpList P ops Q (⟨dst, .binOp .neq t x y t', ty, pos, af, none⟩ :: rest) a w :=
  wpList_neq hx hy hT hF (isI_ints _) (isI_ints _) (by simpa using h1) (by simpa using h2) (by rw [eqv_ints]; exact k)

/-- an array's type: so many elements, of so many cells -/
structure ArrT (P : Program) (t len e q : Nat) : Prop where
  und : P.underlying t = some (.array len e)
  size : (P.info? e).map (·.size) = some q
theorem run_part_agg {e q off : Nat} {cs : List Value} (hT : AggT P e q) (w : World) : (part e cs.toArray off).run P w = .ok (.agg ((cs.drop off).take q).toArray) w := by
  unfold part
  rw [Sem.run_bind, hT.isAgg, Result.andThen_ok]
  simp only [if_true]
  rw [Sem.run_bind, run_sizeOf' hT.2, Result.andThen_ok]
  simp [Sem.run_pure, List.take_drop]
theorem run_part_one {e off : Nat} {cs : List Value} {v : Value} (hT : OneT P e) (hv : cs[off]? = some v) (w : World) : (part e cs.toArray off).run P w = .ok v w := by
  unfold part
  rw [Sem.run_bind, hT.isAgg, Result.andThen_ok]
  simp only [Bool.false_eq_true, if_false, List.getElem?_toArray, hv]
  rfl
theorem run_index {t len e q : Nat} {k : IntKind} {i : Int} {cs : Array Value} (hA : ArrT P t len e q) (h0 : 0 ≤ i) (h1 : i < len) (w : World) : (Instr.index t (.agg cs) (.int k i)).run P w = (part e cs (i.toNat * q)).run P w := by
  have hc : 0 ≤ i ∧ i < len := ⟨h0, h1⟩
  simp [Instr.index, asIntOf, run_underlying hA.und, hc, run_sizeOf' hA.size]
theorem wpList_index_ia {x y : Operand} {t len e q : Nat} {k0 : IntKind} {i : Int} {zs : List Int} (hx : a.eval x = ia zs) (hy : a.eval y = .int k0 i) (hA : ArrT P t len e q) (hT : AggT P e q) (h0 : 0 ≤ i) (h1 : i < len)
    (k : wpList P ops Q rest (a.put dst (ia (sub zs (i.toNat * q) q))) w) : wpList P ops Q (⟨dst, .index t x y, ty, pos, af, none⟩ :: rest) a w := by
  refine wpList_yld ?_ k
  unfold Yld execOp
  simp only [hx, hy, ia, Sem.run_bind, run_index hA h0 h1, run_part_agg hT, Result.andThen_ok, sub, List.map_drop, List.map_take]
  rfl
theorem wpList_index_i1 {x y : Operand} {t len e : Nat} {k0 : IntKind} {i : Int} {zs : List Int} (hx : a.eval x = ia zs) (hy : a.eval y = .int k0 i) (hA : ArrT P t len e 1) (hT : OneT P e) (h0 : 0 ≤ i) (h1 : i < len) (hl : zs.length = len)
    (k : wpList P ops Q rest (a.put dst (.int .i64 (gi zs i.toNat))) w) : wpList P ops Q (⟨dst, .index t x y, ty, pos, af, none⟩ :: rest) a w := by
  refine wpList_yld ?_ k
  unfold Yld execOp
  have hi : i.toNat < zs.length := by omega
  have hv : (zs.map (Value.int .i64))[i.toNat * 1]? = some (.int .i64 (gi zs i.toNat)) := by simp [hi, gi]
  simp only [hx, hy, ia, Sem.run_bind, run_index hA h0 h1, run_part_one hT hv, Result.andThen_ok]
  rfl

theorem run_mapM_sizes (l : List Field) (h : ∀ f ∈ l, (P.info? f.type).isSome = true) (w : World) : ∃ r, (l.mapM (fun f => do pure (f.offset, ← sizeOf f.type) : Field → Sem (Nat × Nat))).run P w = .ok r w := by
  induction l with
  | nil => exact ⟨[], rfl⟩
  | cons f l ih =>
    obtain ⟨r, hr⟩ := ih (fun g hg => h g (by simp [hg]))
    obtain ⟨i, hi⟩ := Option.isSome_iff_exists.1 (h f (by simp))
    refine ⟨(f.offset, i.size) :: r, ?_⟩
    rw [List.mapM_cons]
    simp only [Sem.run_bind, run_sizeOf' (show (P.info? f.type).map (·.size) = some i.size by rw [hi]; rfl), Result.andThen_ok, Sem.run_pure, hr]
/-- the type has fields, or elements, that are known -/
def KnownT (P : Program) (t : TypeId) : Prop := (match P.underlying t with | some (.struct fs) => fs.toList.all (fun f => (P.info? f.type).isSome) | some (.array _ e) => (P.info? e).isSome | _ => false) = true
theorem run_build0 {t : TypeId} {z : Value} {cs : Array Value} (hz : (P.info? t).map (·.zero) = some (some z)) (hc : z.cells = cs) (hK : KnownT P t) (w : World) : (Instr.build t #[]).run P w = .ok (.agg cs) w := by
  obtain ⟨i, hi, hz'⟩ := Option.map_eq_some_iff.1 hz
  have hzv : (zeroValue t).run P w = .ok z w := by simp [zeroValue, typeInfo, hi, hz']
  unfold KnownT at hK
  cases hu : P.underlying t with
  | none => simp [hu] at hK
  | some d =>
    rw [hu] at hK
    cases d with
    | struct fs =>
      obtain ⟨r, hr⟩ := run_mapM_sizes (P := P) fs.toList (List.all_eq_true.1 hK) w
      unfold Instr.build
      simp only [Sem.run_bind, hzv, Result.andThen_ok, run_underlying hu]
      rw [← Array.toArray_toList (xs := fs), List.mapM_toArray]
      simp only [Sem.run_map, hr, Instr.fill]
      simp [Instr.fill, hc]
    | array n e =>
      obtain ⟨j, hj⟩ := Option.isSome_iff_exists.1 hK
      unfold Instr.build
      simp only [Sem.run_bind, hzv, Result.andThen_ok, run_underlying hu, run_sizeOf' (show (P.info? e).map (·.size) = some j.size by rw [hj]; rfl)]
      simp [Instr.fill, hc]
    | _ => cases hK
theorem wpList_build0_ia {t n : Nat} (hz : ZeroI P t n) (hK : KnownT P t)
    (k : wpList P ops Q rest (a.put dst (ia (nau n))) w) : wpList P ops Q (⟨dst, .build t #[], ty, pos, af, none⟩ :: rest) a w := by
  refine wpList_yld ?_ k
  unfold Yld execOp
  simp only [Array.map_empty, Sem.run_bind, run_build0 hz (ia_cells (nau n)) hK, Result.andThen_ok]
  rfl

theorem results_ia_tmp {fn : Func} {p u : Tmp} {t n b : Nat} {e : TypeId} {zs : List Int} {tmps : Array Value} (hI : Inv T w0 w m) (h : fn.results = #[.cell p t, .tmp u]) (hp : tmps.getD p undef = .pointer (some ⟨b, 0, none⟩))
    (hm : ib b e zs ∈ m) (hT : AggT P t n) (hl : zs.length = n) : (results fn tmps).run P w = .ok (.tuple #[ia zs, tmps.getD u undef]) w :=
  results_agg_tmp hI h hp hm hT (by simpa using hl)
theorem results_ia {fn : Func} {p : Tmp} {t n b : Nat} {e : TypeId} {zs : List Int} {tmps : Array Value} (hI : Inv T w0 w m) (h : fn.results = #[.cell p t]) (hp : tmps.getD p undef = .pointer (some ⟨b, 0, none⟩))
    (hm : ib b e zs ∈ m) (hT : AggT P t n) (hl : zs.length = n) : (results fn tmps).run P w = .ok (ia zs) w :=
  results_agg hI h hp hm hT (by simpa using hl)
end
end Go.Proofs.Ytaeapoidigglnaa
