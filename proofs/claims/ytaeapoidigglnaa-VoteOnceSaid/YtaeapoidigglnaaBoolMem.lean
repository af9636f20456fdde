/-
  Memory of integers and truths: blocks whose cells are first integers, then truths. No condition.
-/
import Derived.Test.YtaeapoidigglnaaIntMem
namespace Go.Proofs.Ytaeapoidigglnaa
open Go.RowKit
/-- integers, then truths -/
def mix (zs : List Int) (bs : List Bool) : List Value := zs.map (Value.int .i64) ++ bs.map Value.bool
/-- a block of integers, then truths -/
def ibb (b : Nat) (e : TypeId) (zs : List Int) (bs : List Bool) : Res := blk b e (mix zs bs)
/-- the i-th truth -/
def gb (bs : List Bool) (i : Nat) : Bool := bs.getD i false
theorem mix_len (zs : List Int) (bs : List Bool) : (mix zs bs).length = zs.length + bs.length := by simp [mix]
theorem mix_sub (zs : List Int) (bs : List Bool) (off n : Nat) (h : off + n ≤ zs.length) : ((mix zs bs).drop off).take n = (sub zs off n).map (Value.int .i64) := by
  unfold mix sub
  rw [List.drop_append_of_le_length (by simp; omega), List.take_append_of_le_length (by simp; omega), ← List.map_drop, ← List.map_take]
theorem mix_int (zs : List Int) (bs : List Bool) (i : Nat) (h : i < zs.length) : (mix zs bs)[i]? = some (.int .i64 (gi zs i)) := by
  unfold mix
  rw [List.getElem?_append_left (by simpa using h)]
  simp [h, gi]
theorem mix_bool (zs : List Int) (bs : List Bool) (i : Nat) (h : i < bs.length) : (mix zs bs)[zs.length + i]? = some (.bool (gb bs i)) := by
  unfold mix
  rw [List.getElem?_append_right (by simp)]
  simp [h, gb]
theorem mix_spl (zs vs : List Int) (bs : List Bool) (off : Nat) (h : off + vs.length ≤ zs.length) : splice (mix zs bs) off (vs.map (Value.int .i64)) = mix (spl zs off vs) bs := by
  unfold splice mix spl
  rw [List.take_append_of_le_length (by simp; omega), List.drop_append_of_le_length (by simp; omega)]
  simp [List.map_take, List.map_drop]
theorem mix_set (zs : List Int) (bs : List Bool) (i : Nat) (v : Bool) : (mix zs bs).set (zs.length + i) (.bool v) = mix zs (bs.set i v) := by
  unfold mix
  rw [List.set_append_right _ _ (by simp)]
  simp
theorem gb_set (bs : List Bool) (i j : Nat) (v : Bool) : gb (bs.set i v) j = if i = j ∧ j < bs.length then v else gb bs j := by
  unfold gb
  rw [List.getD_eq_getElem?_getD, List.getD_eq_getElem?_getD, List.getElem?_set]
  by_cases h : i = j
  · subst h
    by_cases h2 : i < bs.length
    · simp [h2]
    · simp [h2]
  · simp [h]

section
variable {P : Program} {ops : Array Oper} {Q : Exit → Act → World → Prop} {a : Act} {rest : List Oper} {T : List Nat} {w0 w : World} {m m' : List Res} {dst : Option Tmp} {ty : TypeId} {pos : String} {af : Array Edge}
theorem wpList_load_mia {x : Operand} {t n b off : Nat} {e : TypeId} {zs : List Int} {bs : List Bool} (hI : Inv T w0 w m) (hx : a.eval x = .pointer (some ⟨b, off, none⟩)) (hm : ibb b e zs bs ∈ m) (hT : AggT P t n) (hl : off + n ≤ zs.length)
    (k : wpList P ops Q rest (a.put dst (ia (sub zs off n))) w) : wpList P ops Q (⟨dst, .load t x, ty, pos, af, none⟩ :: rest) a w := by
  refine wpList_load_agg hI hx hm hT (by rw [mix_len]; omega) ?_
  rw [mix_sub _ _ _ _ hl]
  exact k
theorem wpList_load_mi1 {x : Operand} {t b off : Nat} {e : TypeId} {zs : List Int} {bs : List Bool} (hI : Inv T w0 w m) (hx : a.eval x = .pointer (some ⟨b, off, none⟩)) (hm : ibb b e zs bs ∈ m) (hT : OneT P t) (hl : off < zs.length)
    (k : wpList P ops Q rest (a.put dst (.int .i64 (gi zs off))) w) : wpList P ops Q (⟨dst, .load t x, ty, pos, af, none⟩ :: rest) a w :=
  wpList_load_one hI hx hm hT (mix_int zs bs off hl) k
theorem wpList_load_mb {x : Operand} {t b off j : Nat} {e : TypeId} {zs : List Int} {bs : List Bool} (hI : Inv T w0 w m) (hx : a.eval x = .pointer (some ⟨b, off, none⟩)) (hm : ibb b e zs bs ∈ m) (hT : OneT P t) (hl : off = zs.length + j) (hj : j < bs.length)
    (k : wpList P ops Q rest (a.put dst (.bool (gb bs j))) w) : wpList P ops Q (⟨dst, .load t x, ty, pos, af, none⟩ :: rest) a w :=
  wpList_load_one hI hx hm hT (by rw [hl]; exact mix_bool zs bs j hj) k
theorem wpList_store_mia {x y : Operand} {t n b off : Nat} {e : TypeId} {zs vs : List Int} {bs : List Bool} (hI : Inv T w0 w m) (hx : a.eval x = .pointer (some ⟨b, off, none⟩)) (hv : a.eval y = ia vs) (hu : Upd (ibb b e zs bs) (ibb b e (spl zs off vs) bs) m m')
    (hT : AggT P t n) (hl : vs.length = n) (hoff : off + n ≤ zs.length)
    (k : ∀ w', Inv T w0 w' m' → wpList P ops Q rest (a.put dst undef) w') : wpList P ops Q (⟨dst, .store t x y, ty, pos, af, none⟩ :: rest) a w :=
  wpList_store hI hx (vs := vs.map (Value.int .i64)) (by rw [hv]; rfl) (by rw [mix_spl zs vs bs off (by omega)]; exact hu) hT.size (by simpa using hl) (by rw [mix_len]; omega) (one_ints vs) k
theorem wpList_store_mb {x y : Operand} {t b off j : Nat} {e : TypeId} {zs : List Int} {bs : List Bool} {v : Bool} (hI : Inv T w0 w m) (hx : a.eval x = .pointer (some ⟨b, off, none⟩)) (hv : a.eval y = .bool v) (hl : off = zs.length + j) (hu : Upd (ibb b e zs bs) (ibb b e zs (bs.set j v)) m m')
    (hT : OneT P t) (hj : j < bs.length)
    (k : ∀ w', Inv T w0 w' m' → wpList P ops Q rest (a.put dst undef) w') : wpList P ops Q (⟨dst, .store t x y, ty, pos, af, none⟩ :: rest) a w :=
  wpList_store_1 hI hx hv rfl rfl (by rw [hl, mix_set]; exact hu) hT (by rw [mix_len]; omega) k
theorem mix_set_i (zs : List Int) (bs : List Bool) (i : Nat) (v : Int) (h : i < zs.length) : (mix zs bs).set i (.int .i64 v) = mix (zs.set i v) bs := by
  unfold mix
  rw [List.set_append_left _ _ (by simpa using h), List.map_set]
theorem wpList_store_mi1 {x y : Operand} {t b off : Nat} {e : TypeId} {zs : List Int} {bs : List Bool} {v : Int} (hI : Inv T w0 w m) (hx : a.eval x = .pointer (some ⟨b, off, none⟩)) (hv : a.eval y = .int .i64 v) (hu : Upd (ibb b e zs bs) (ibb b e (zs.set off v) bs) m m')
    (hT : OneT P t) (hj : off < zs.length)
    (k : ∀ w', Inv T w0 w' m' → wpList P ops Q rest (a.put dst undef) w') : wpList P ops Q (⟨dst, .store t x y, ty, pos, af, none⟩ :: rest) a w :=
  wpList_store_1 hI hx hv rfl rfl (by rw [mix_set_i _ _ _ _ hj]; exact hu) hT (by rw [mix_len]; omega) k
/-- a block of truths -/
def bb (b : Nat) (e : TypeId) (bs : List Bool) : Res := blk b e (bs.map Value.bool)
theorem wpList_load_bb {x : Operand} {t b off : Nat} {e : TypeId} {bs : List Bool} (hI : Inv T w0 w m) (hx : a.eval x = .pointer (some ⟨b, off, none⟩)) (hm : bb b e bs ∈ m) (hT : OneT P t) (hl : off < bs.length)
    (k : wpList P ops Q rest (a.put dst (.bool (gb bs off))) w) : wpList P ops Q (⟨dst, .load t x, ty, pos, af, none⟩ :: rest) a w :=
  wpList_load_one hI hx hm hT (v := .bool (gb bs off)) (by simp [hl, gb]) k
theorem wpList_store_bb {x y : Operand} {t b off : Nat} {e : TypeId} {bs : List Bool} {v : Bool} (hI : Inv T w0 w m) (hx : a.eval x = .pointer (some ⟨b, off, none⟩)) (hv : a.eval y = .bool v) (hu : Upd (bb b e bs) (bb b e (bs.set off v)) m m')
    (hT : OneT P t) (hj : off < bs.length)
    (k : ∀ w', Inv T w0 w' m' → wpList P ops Q rest (a.put dst undef) w') : wpList P ops Q (⟨dst, .store t x y, ty, pos, af, none⟩ :: rest) a w :=
  wpList_store_1 hI hx hv rfl rfl (by rw [← List.map_set]; exact hu) hT (by simpa using hj) k
def ZeroB (P : Program) (t k : Nat) : Prop := (P.info? t).map (·.zero) = some (some (.agg ((List.replicate k false).map Value.bool).toArray))
theorem wpList_alloc_bb {t q : Nat} (hI : Inv T w0 w m) (hz : ZeroB P t q)
    (k : ∀ b w', Inv T w0 w' (bb b t (List.replicate q false) :: m) → wpList P ops Q rest (a.put dst (.pointer (some ⟨b, 0, none⟩))) w') : wpList P ops Q (⟨dst, .alloc t, ty, pos, af, none⟩ :: rest) a w :=
  wpList_alloc hI hz rfl k
theorem takeM {w : World} {b : Nat} {e : TypeId} {zs : List Int} {bs : List Bool} (hb : w.heap[b]? = some (.cells (mix zs bs).toArray e (0, 0))) : Inv [b] w w [ibb b e zs bs] := Inv.take hb
theorem Inv.mbk (h : Inv T w0 w m) {b : Nat} {e : TypeId} {zs : List Int} {bs : List Bool} (hm : ibb b e zs bs ∈ m) : w.heap[b]? = some (.cells (mix zs bs).toArray e (0, 0)) := h.blk hm
theorem Inv.mcall {w' : World} {b : Nat} {e : TypeId} {zs zs' : List Int} {bs bs' : List Bool} (h : Inv T w0 w m) (hu : Upd (ibb b e zs bs) (ibb b e zs' bs') m m') (hs : Step [b] w w') (hr : w'.heap[b]? = some (.cells (mix zs' bs').toArray e (0, 0))) : Inv T w0 w' m' := h.callOn hu hs hr
theorem takeI {w : World} {b : Nat} {e : TypeId} {zs : List Int} (hb : w.heap[b]? = some (.cells (zs.map (Value.int .i64)).toArray e (0, 0))) : Inv [b] w w [ib b e zs] := Inv.take hb
theorem Inv.ibk (h : Inv T w0 w m) {b : Nat} {e : TypeId} {zs : List Int} (hm : ib b e zs ∈ m) : w.heap[b]? = some (.cells (zs.map (Value.int .i64)).toArray e (0, 0)) := h.blk hm
theorem Inv.icall {w' : World} {b : Nat} {e : TypeId} {zs zs' : List Int} (h : Inv T w0 w m) (hu : Upd (ib b e zs) (ib b e zs') m m') (hs : Step [b] w w') (hr : w'.heap[b]? = some (.cells (zs'.map (Value.int .i64)).toArray e (0, 0))) : Inv T w0 w' m' := h.callOn hu hs hr
/-- the type's zero value: so many naughts, so many falses -/
def ZeroM (P : Program) (t n k : Nat) : Prop := (P.info? t).map (·.zero) = some (some (.agg (mix (nau n) (List.replicate k false)).toArray))
theorem wpList_alloc_m {t n q : Nat} (hI : Inv T w0 w m) (hz : ZeroM P t n q)
    (k : ∀ b w', Inv T w0 w' (ibb b t (nau n) (List.replicate q false) :: m) → wpList P ops Q rest (a.put dst (.pointer (some ⟨b, 0, none⟩))) w') : wpList P ops Q (⟨dst, .alloc t, ty, pos, af, none⟩ :: rest) a w :=
  wpList_alloc hI hz rfl k
end
end Go.Proofs.Ytaeapoidigglnaa
