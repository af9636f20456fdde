/-
  '==' between structs and arrays all of whose cells are ints: as the lists of their numbers are. No condition.
-/
import Derived.Test.YtaeapoidigglnaaReg
namespace Go.Proofs.Ytaeapoidigglnaa
open Go.RowKit

def iv (x : Int) : Value := .int .i64 x
/-- the numbers of cells are the same -/
def eqv (cs ds : List Value) : Bool := decide (cs.map intOf = ds.map intOf)
theorem eqv_self (cs : List Value) : eqv cs cs = true := by simp [eqv]
def isI (v : Value) : Prop := ∃ x, v = iv x
theorem isI_list {cs : List Value} (h : ∀ v ∈ cs, isI v) : cs = (cs.map intOf).map iv := by
  induction cs with
  | nil => rfl
  | cons v cs ih =>
    obtain ⟨x, rfl⟩ := h v (by simp)
    simp only [List.map_cons, intOf, iv]
    rw [← ih fun v hv => h v (by simp [hv])]
theorem eqv_iff {cs ds : List Value} (hc : ∀ v ∈ cs, isI v) (hd : ∀ v ∈ ds, isI v) : eqv cs ds = true ↔ cs = ds := by
  unfold eqv
  rw [decide_eq_true_eq]
  constructor
  · intro h; rw [isI_list hc, isI_list hd, h]
  · rintro rfl; rfl
theorem eqv_ne {cs ds : List Value} (hc : ∀ v ∈ cs, isI v) (hd : ∀ v ∈ ds, isI v) (h : cs ≠ ds) : eqv cs ds = false := by
  cases he : eqv cs ds
  · rfl
  · exact absurd ((eqv_iff hc hd).1 he) h

/-- values of type t of n int cells are compared cell by cell, at whatever depth from D on -/
def Flat (P : Program) (t n D : Nat) : Prop := (P.underlying t = some (.int .i64) ∧ OneT P t ∧ n = 1 ∧ 1 ≤ D) ∨
  (AggT P t n ∧ ∀ d, D ≤ d → ∀ (cs ds : List Value) (w : World), (∀ v ∈ cs, isI v) → (∀ v ∈ ds, isI v) → cs.length = n → ds.length = n → (Op.equalIn d t (.agg cs.toArray) (.agg ds.toArray)).run P w = .ok (eqv cs ds) w)
theorem Flat.int {P : Program} {t D : Nat} (h : P.underlying t = some (.int .i64)) (ha : OneT P t) (hD : 1 ≤ D) : Flat P t 1 D := .inl ⟨h, ha, rfl, hD⟩
theorem Flat.agg {P : Program} {t n D : Nat} (hT : AggT P t n) (h : ∀ d, D ≤ d → ∀ (cs ds : List Value) (w : World), (∀ v ∈ cs, isI v) → (∀ v ∈ ds, isI v) → cs.length = n → ds.length = n → (Op.equalIn d t (.agg cs.toArray) (.agg ds.toArray)).run P w = .ok (eqv cs ds) w) : Flat P t n D := .inr ⟨hT, h⟩

section
variable {P : Program}
theorem Flat.weak {t n D D' : Nat} (h : Flat P t n D) (hd : D ≤ D') : Flat P t n D' := by
  rcases h with ⟨h1, h2, h3, h4⟩ | ⟨hT, h⟩
  · exact .inl ⟨h1, h2, h3, Nat.le_trans h4 hd⟩
  · exact .inr ⟨hT, fun d hd' => h d (Nat.le_trans hd hd')⟩

/-- a part of a value, compared -/
theorem Flat.part {t n D : Nat} (h : Flat P t n D) (d : Nat) (hd : D ≤ d) (cs ds : List Value) (w : World) (hc : ∀ v ∈ cs, isI v) (hds : ∀ v ∈ ds, isI v) (off : Nat) (h1 : off + n ≤ cs.length) (h2 : off + n ≤ ds.length) :
    ∃ x y, (Go.part t cs.toArray off).run P w = .ok x w ∧ (Go.part t ds.toArray off).run P w = .ok y w ∧ (Op.equalIn d t x y).run P w = .ok (eqv ((cs.drop off).take n) ((ds.drop off).take n)) w := by
  rcases h with ⟨h, ha, rfl, hD1⟩ | ⟨hT, h⟩
  · have e1 : off < cs.length := by omega
    have e2 : off < ds.length := by omega
    obtain ⟨x, hx⟩ := hc cs[off] (List.getElem_mem e1)
    obtain ⟨y, hy⟩ := hds ds[off] (List.getElem_mem e2)
    refine ⟨iv x, iv y, ?_, ?_, ?_⟩
    · rw [Go.part, Sem.run_bind, ha.isAgg, Result.andThen_ok]; simp [e1, hx]
    · rw [Go.part, Sem.run_bind, ha.isAgg, Result.andThen_ok]; simp [e2, hy]
    · obtain ⟨d, rfl⟩ : ∃ e, d = e + 1 := ⟨d - 1, by omega⟩
      have := run_equalIn_int (P := P) w d t .i64 .i64 x y h
      rw [iv, iv, this]
      congr 1
      rw [List.drop_eq_getElem_cons e1, List.drop_eq_getElem_cons e2, hx, hy]
      simp only [List.take_succ_cons, List.take_zero, eqv, iv, List.map_cons, List.map_nil, intOf, List.cons.injEq, and_true]
      by_cases hxy : x = y <;> simp [hxy]
  · refine ⟨_, _, ?_, ?_, h d hd ((cs.drop off).take n) ((ds.drop off).take n) w (fun v hv => hc v (List.mem_of_mem_drop (List.mem_of_mem_take hv))) (fun v hv => hds v (List.mem_of_mem_drop (List.mem_of_mem_take hv))) (by simp; omega) (by simp; omega)⟩
    · rw [Go.part, Sem.run_bind, hT.isAgg, Result.andThen_ok]
      simp only [if_true]
      rw [Sem.run_bind, run_sizeOf' hT.size, Result.andThen_ok]
      simp [List.extract_eq_take_drop]
    · rw [Go.part, Sem.run_bind, hT.isAgg, Result.andThen_ok]
      simp only [if_true]
      rw [Sem.run_bind, run_sizeOf' hT.size, Result.andThen_ok]
      simp [List.extract_eq_take_drop]

theorem eqv_append {a b c d : List Value} (h : a.length = c.length) : eqv (a ++ b) (c ++ d) = (eqv a c && eqv b d) := by
  unfold eqv
  rw [Bool.eq_iff_iff]
  simp only [List.map_append, decide_eq_true_eq, Bool.and_eq_true]
  constructor
  · intro he
    have := List.append_inj he (by simp [h])
    exact this
  · rintro ⟨h1, h2⟩; rw [h1, h2]

/-- the fields lie one behind the other, from o on, n cells in all -/
def Tiles (P : Program) (D : Nat) : List Field → Nat → Nat → Prop
  | [], o, n => o = n
  | f :: fs, o, n => f.name ≠ "_" ∧ f.offset = o ∧ ∃ k, Flat P f.type k D ∧ Tiles P D fs (o + k) n
theorem Tiles.le {D : Nat} : ∀ {fs : List Field} {o n : Nat}, Tiles P D fs o n → o ≤ n
  | [], _, _, h => by cases h; exact Nat.le_refl _
  | _ :: _, _, _, ⟨_, _, k, _, h⟩ => by have := Tiles.le h; omega

theorem run_eqFields {D : Nat} : ∀ (fs : List Field) (o n : Nat), Tiles P D fs o n → ∀ (d : Nat), D ≤ d → ∀ (cs ds : List Value) (w : World), (∀ v ∈ cs, isI v) → (∀ v ∈ ds, isI v) → cs.length = n → ds.length = n →
    (Op.eqFields d cs.toArray ds.toArray fs).run P w = .ok (eqv (cs.drop o) (ds.drop o)) w
  | [], o, n, h, d, _, cs, ds, w, _, _, h1, h2 => by
    have h : o = n := h
    simp [Op.eqFields, List.drop_eq_nil_of_le, h1, h2, h, eqv_self]
  | f :: fs, o, n, ⟨hn, ho, k, hf, hr⟩, d, hd, cs, ds, w, hc, hds, h1, h2 => by
    have hle := Tiles.le hr
    subst ho
    obtain ⟨x, y, hx, hy, he⟩ := hf.part d hd cs ds w hc hds f.offset (by omega) (by omega)
    have ih' := run_eqFields fs (f.offset + k) n hr d hd cs ds w hc hds h1 h2
    have split : ∀ l : List Value, l.length = n → l.drop f.offset = (l.drop f.offset).take k ++ l.drop (f.offset + k) := fun l _ => by
      rw [← List.drop_drop, List.take_append_drop]
    rw [split cs h1, split ds h2, eqv_append (by simp; omega)]
    simp only [Op.eqFields, hn, ne_eq, not_false_eq_true, if_true, Sem.run_bind, hx, hy, he, Result.andThen_ok]
    cases eqv ((cs.drop f.offset).take k) ((ds.drop f.offset).take k)
    · simp
    · simpa using ih'

theorem flat_struct {t n D : Nat} (hT : AggT P t n) (ht : P.underlying t = some (.struct (P.fieldsOf t))) (hp : P.stoodInHeld t = false) (h : Tiles P D (P.fieldsOf t).toList 0 n) : Flat P t n (D + 1) := by
  refine .agg hT fun d hd cs ds w hc hds h1 h2 => ?_
  obtain ⟨d, rfl⟩ : ∃ e, d = e + 1 := ⟨d - 1, by omega⟩
  rw [run_equalIn_struct w d t _ _ ht hp, run_eqFields _ 0 n h d (by omega) cs ds w hc hds h1 h2]
  simp

/-- the fields as a closed fact lists them -/
def TilesL (P : Program) (D : Nat) : List (Bool × Nat × TypeId) → Nat → Nat → Prop
  | [], o, n => o = n
  | x :: l, o, n => x.1 = false ∧ x.2.1 = o ∧ ∃ k, Flat P x.2.2 k D ∧ TilesL P D l (o + k) n
theorem TilesL.nil {D n : Nat} : TilesL P D [] n n := rfl
theorem TilesL.cons {D o k n t D' : Nat} {l : List (Bool × Nat × TypeId)} (h : Flat P t k D') (hD : D' ≤ D) (hr : TilesL P D l (o + k) n) : TilesL P D ((false, o, t) :: l) o n := ⟨rfl, rfl, k, h.weak hD, hr⟩
def fieldSpec (f : Field) : Bool × Nat × TypeId := (f.name == "_", f.offset, f.type)
theorem tiles_of {D : Nat} : ∀ (fs : List Field) (o n : Nat), TilesL P D (fs.map fieldSpec) o n → Tiles P D fs o n
  | [], _, _, h => h
  | f :: fs, o, n, h => by
    obtain ⟨h1, h2, k, h3, h4⟩ := h
    exact ⟨by simpa [fieldSpec] using h1, h2, k, h3, tiles_of fs _ _ h4⟩
theorem flat_struct' {t n D : Nat} {l : List (Bool × Nat × TypeId)} (hT : AggT P t n) (ht : P.underlying t = some (.struct (P.fieldsOf t))) (hp : P.stoodInHeld t = false) (hl : (P.fieldsOf t).toList.map fieldSpec = l) (h : TilesL P D l 0 n) : Flat P t n (D + 1) :=
  flat_struct hT ht hp (tiles_of _ 0 n (hl ▸ h))

theorem run_eqElems {e k D : Nat} (hf : Flat P e k D) (d : Nat) (hd : D ≤ d) (cs ds : List Value) (hc : ∀ v ∈ cs, isI v) (hds : ∀ v ∈ ds, isI v) : ∀ (m i : Nat) (w : World), cs.length = (i + m) * k → ds.length = (i + m) * k →
    ((forIn (List.range' i m) ((none, ()) : Option Bool × Unit) fun j _ => do
        if (!(← Op.equalIn d e (← Go.part e cs.toArray (j * k)) (← Go.part e ds.toArray (j * k)))) = true then pure (ForInStep.done (some false, ())) else pure (ForInStep.yield (none, ())) : Sem (Option Bool × Unit))).run P w =
      .ok (if eqv (cs.drop (i * k)) (ds.drop (i * k)) then (none, ()) else (some false, ())) w
  | 0, i, w, h1, h2 => by
    simp only [Nat.add_zero] at h1 h2
    simp [List.drop_eq_nil_of_le, h1, h2, eqv_self]
  | m + 1, i, w, h1, h2 => by
    have e1 : (i + (m + 1)) * k = i * k + k + m * k := by rw [Nat.add_mul, Nat.succ_mul]; omega
    obtain ⟨x, y, hx, hy, he⟩ := hf.part d hd cs ds w hc hds (i * k) (by omega) (by omega)
    have ih := run_eqElems hf d hd cs ds hc hds m (i + 1) w (by rw [h1, show i + (m + 1) = i + 1 + m from by omega]) (by rw [h2, show i + (m + 1) = i + 1 + m from by omega])
    have split : ∀ l : List Value, l.drop (i * k) = (l.drop (i * k)).take k ++ l.drop ((i + 1) * k) := fun l => by
      rw [Nat.succ_mul, ← List.drop_drop, List.take_append_drop]
    rw [split cs, split ds, eqv_append (by simp; omega)]
    simp only [List.range'_succ, List.forIn_cons, Sem.run_bind, hx, hy, he, Result.andThen_ok]
    cases eqv ((cs.drop (i * k)).take k) ((ds.drop (i * k)).take k)
    · simp
    · simpa using ih

theorem flat_array {t e k m n D : Nat} (hT : AggT P t n) (ht : P.underlying t = some (.array m e)) (hk : (P.info? e).map (·.size) = some k) (hf : Flat P e k D) (hn : n = m * k) : Flat P t n (D + 1) := by
  refine .agg hT fun d hd cs ds w hc hds h1 h2 => ?_
  obtain ⟨d, rfl⟩ : ∃ e, d = e + 1 := ⟨d - 1, by omega⟩
  have hl := run_eqElems hf d (by omega) cs ds hc hds m 0 w (by rw [Nat.zero_add, h1, hn]) (by rw [Nat.zero_add, h2, hn])
  simp only [Op.equalIn, Sem.run_bind, run_underlying ht, Result.andThen_ok, run_sizeOf' hk]
  rw [Std.Legacy.Range.forIn_eq_forIn_range']
  simp only [Std.Legacy.Range.size, Nat.sub_zero, Nat.add_sub_cancel, Nat.div_one]
  rw [hl]
  simp only [Nat.zero_mul, List.drop_zero, Result.andThen_ok]
  cases eqv cs ds <;> simp
end

section
variable {P : Program} {ops : Array Oper} {Q : Exit → Act → World → Prop} {a : Act} {rest : List Oper} {T : List Nat} {w0 w : World} {m : List Res} {dst : Option Tmp} {ty : TypeId} {pos : String} {af : Array Edge}
/-- a type whose values can be compared cell by cell -/
structure FlatT (P : Program) (t n : Nat) : Prop where
  flat : Flat P t n 20
  guard : P.eqGuardType P.depth t = false
theorem Flat.up {t n D D' : Nat} (h : Flat P t n D) (hd : D ≤ D') : ∀ d, D' ≤ d → ∀ (cs ds : List Value) (w : World), AggT P t n → (∀ v ∈ cs, isI v) → (∀ v ∈ ds, isI v) → cs.length = n → ds.length = n → (Op.equalIn d t (.agg cs.toArray) (.agg ds.toArray)).run P w = .ok (eqv cs ds) w := by
  intro d hd' cs ds w hT hc hds h1 h2
  rcases h with ⟨h, _⟩ | ⟨_, h⟩
  · have := hT.1; rw [h] at this; cases this
  · exact h d (by omega) cs ds w hc hds h1 h2
theorem wpList_eql {x y : Operand} {t t' n : Nat} {cs ds : List Value} (hx : a.eval x = .agg cs.toArray) (hy : a.eval y = .agg ds.toArray) (hT : AggT P t n) (hF : FlatT P t n) (hc : ∀ v ∈ cs, isI v) (hd : ∀ v ∈ ds, isI v) (h1 : cs.length = n) (h2 : ds.length = n)
    (k : wpList P ops Q rest (a.put dst (.bool (eqv cs ds))) w) : wpList P ops Q (⟨dst, .binOp .eql t x y t', ty, pos, af, none⟩ :: rest) a w := by
  refine wpList_yld (v := .bool (eqv cs ds)) ?_ k
  unfold Yld execOp
  simp only [hx, hy, Sem.run_bind, run_eqGuard_agg w .eql t x y cs.toArray ds.toArray hF.guard, Result.andThen_ok, run_eql_struct, hF.flat.up (Nat.le_refl _) 10000 (by decide) cs ds w hT hc hd h1 h2]
  rfl
theorem wpList_neq {x y : Operand} {t t' n : Nat} {cs ds : List Value} (hx : a.eval x = .agg cs.toArray) (hy : a.eval y = .agg ds.toArray) (hT : AggT P t n) (hF : FlatT P t n) (hc : ∀ v ∈ cs, isI v) (hd : ∀ v ∈ ds, isI v) (h1 : cs.length = n) (h2 : ds.length = n)
    (k : wpList P ops Q rest (a.put dst (.bool (!eqv cs ds))) w) : wpList P ops Q (⟨dst, .binOp .neq t x y t', ty, pos, af, none⟩ :: rest) a w := by
  refine wpList_yld (v := .bool (!eqv cs ds)) ?_ k
  unfold Yld execOp
  simp only [hx, hy, Sem.run_bind, run_eqGuard_agg w .neq t x y cs.toArray ds.toArray hF.guard, Result.andThen_ok, run_neq_struct, hF.flat.up (Nat.le_refl _) 10000 (by decide) cs ds w hT hc hd h1 h2]
  rfl
end
end Go.Proofs.Ytaeapoidigglnaa
