/-
  Maps from integers in owned memory: a new one, a look, an update. No condition.
-/
import Derived.Test.YthncfjfgjdeajaaRules
import Derived.MapKept
import Derived.Carry
namespace Go.Proofs.Ythncfjfgjdeajaa
open Go.RowKit
open Go.MapKept (IsKey)
/-- the entries are those of f -/
structure MapI (es : Array MapEntry) (f : Int → Option Value) : Prop where
  keys : ∀ (i : Nat) (x : MapEntry), es[i]? = some x → ∃ k, x.key = .int .i64 k
  inj : ∀ (i j : Nat) (x y : MapEntry), es[i]? = some x → es[j]? = some y → x.key = y.key → i = j
  at_ : ∀ k v, f k = some v ↔ ∃ (i : Nat) (x : MapEntry), es[i]? = some x ∧ x.key = .int .i64 k ∧ x.val = v
/-- a map from integers -/
def mpr (r : Nat) (f : Int → Option Value) : Res :=
  ⟨[r], fun w => ∃ es clock, w.heap[r]? = some (.map es clock) ∧ MapI es f, fun w w' h hs => by
    obtain ⟨es, clock, h1, h2⟩ := hs
    exact ⟨es, clock, by rw [h r (by simp)]; exact h1, h2⟩⟩
theorem MapI.empty : MapI #[] (fun _ => none) := ⟨by simp, by simp, by simp⟩
theorem isKey_int (k : Int) : IsKey (.int .i64) (.int .i64 k) := by simp [IsKey]
theorem MapI.isKey {es : Array MapEntry} {f : Int → Option Value} (h : MapI es f) : ∀ x ∈ es.toList, IsKey (.int .i64) x.key := by
  intro x hx
  obtain ⟨i, hi⟩ := List.getElem?_of_mem hx
  obtain ⟨k, hk⟩ := h.keys i x (by simpa using hi)
  rw [hk]; exact isKey_int k
theorem MapI.push {es : Array MapEntry} {f : Int → Option Value} (h : MapI es f) {k : Int} (hk : ∀ x ∈ es.toList, x.key ≠ .int .i64 k) (v : Value) (b : Nat) : MapI (es.push ⟨.int .i64 k, v, b⟩) (fun j => if j = k then some v else f j) := by
  have hk2 : ∀ (i : Nat) (x : MapEntry), es[i]? = some x → x.key ≠ .int .i64 k := fun i x hx => hk x (List.mem_of_getElem? (by simpa using hx))
  have hlt : ∀ (i : Nat) (x : MapEntry), es[i]? = some x → i ≠ es.size := fun i x hx he => by
    have := (Array.getElem?_eq_some_iff.1 hx).1; omega
  refine ⟨fun i x hx => ?_, fun i j x y hx hy he => ?_, fun j u => ?_⟩
  · rw [Array.getElem?_push] at hx
    split at hx
    · cases hx; exact ⟨k, rfl⟩
    · exact h.keys i x hx
  · rw [Array.getElem?_push] at hx hy
    split at hx
    · split at hy
      · omega
      · cases hx
        exact absurd he.symm (hk2 j y hy)
    · split at hy
      · cases hy
        exact absurd he (hk2 i x hx)
      · exact h.inj i j x y hx hy he
  · constructor
    · intro hf
      by_cases hjk : j = k
      · rw [if_pos hjk] at hf
        cases hf
        exact ⟨es.size, ⟨.int .i64 k, v, b⟩, by simp, by rw [hjk], rfl⟩
      · rw [if_neg hjk] at hf
        obtain ⟨i, x, h1, h2, h3⟩ := (h.at_ j u).1 hf
        exact ⟨i, x, by rw [Array.getElem?_push, if_neg (hlt i x h1)]; exact h1, h2, h3⟩
    · rintro ⟨i, x, h1, h2, h3⟩
      rw [Array.getElem?_push] at h1
      split at h1
      · cases h1
        have : k = j := by simpa using h2
        rw [if_pos this.symm]
        exact congrArg some h3
      · have hjk : j ≠ k := by
          rintro rfl
          exact hk2 i x h1 h2
        rw [if_neg hjk]
        exact (h.at_ j u).2 ⟨i, x, h1, h2, h3⟩
theorem MapI.modify {es : Array MapEntry} {f : Int → Option Value} (h : MapI es f) {k : Int} {n : Nat} {e : MapEntry} (hn : es[n]? = some e) (he : e.key = .int .i64 k) (v : Value) : MapI (es.modify n fun e => { e with key := .int .i64 k, val := v }) (fun j => if j = k then some v else f j) := by
  have hget : ∀ i : Nat, (es.modify n fun e => { e with key := .int .i64 k, val := v })[i]? = if n = i then (es[i]?).map (fun e => { e with key := .int .i64 k, val := v }) else es[i]? := fun i => by
    rw [Array.getElem?_modify]
  have hkey : ∀ (i : Nat) (x : MapEntry), (es.modify n fun e => { e with key := .int .i64 k, val := v })[i]? = some x → ∃ y, es[i]? = some y ∧ x.key = y.key := by
    intro i x hx
    rw [hget] at hx
    split at hx
    · rename_i hni
      subst hni
      rw [hn] at hx
      cases hx
      exact ⟨e, hn, he.symm⟩
    · exact ⟨x, hx, rfl⟩
  refine ⟨fun i x hx => ?_, fun i j x y hx hy hxy => ?_, fun j u => ?_⟩
  · obtain ⟨y, h1, h2⟩ := hkey i x hx
    rw [h2]; exact h.keys i y h1
  · obtain ⟨x', h1, h2⟩ := hkey i x hx
    obtain ⟨y', h3, h4⟩ := hkey j y hy
    exact h.inj i j x' y' h1 h3 (by rw [← h2, ← h4]; exact hxy)
  · constructor
    · intro hf
      by_cases hjk : j = k
      · rw [if_pos hjk] at hf
        cases hf
        exact ⟨n, { e with key := .int .i64 k, val := v }, by rw [hget, if_pos rfl, hn]; rfl, by rw [hjk], rfl⟩
      · rw [if_neg hjk] at hf
        obtain ⟨i, x, h1, h2, h3⟩ := (h.at_ j u).1 hf
        refine ⟨i, x, ?_, h2, h3⟩
        rw [hget, if_neg]
        · exact h1
        · rintro rfl
          rw [hn] at h1
          cases h1
          rw [he] at h2
          exact hjk (by simpa using h2.symm)
    · rintro ⟨i, x, h1, h2, h3⟩
      rw [hget] at h1
      split at h1
      · rename_i hni
        subst hni
        rw [hn] at h1
        cases h1
        have : k = j := by simpa using h2
        rw [if_pos this.symm]
        exact congrArg some h3
      · rename_i hni
        have hjk : j ≠ k := by
          rintro rfl
          exact hni (h.inj n i e x hn h1 (by rw [he, h2]))
        rw [if_neg hjk]
        exact (h.at_ j u).2 ⟨i, x, h1, h2, h3⟩
section
variable {P : Program} {ops : Array Oper} {Q : Exit → Act → World → Prop} {a : Act} {rest : List Oper} {T : List Nat} {w0 w : World} {m m' : List Res} {dst : Option Tmp} {ty : TypeId} {pos : String} {af : Array Edge}
/-- a map from integers -/
def MapT (P : Program) (t kt et : TypeId) : Prop := P.underlying t = some (.map kt et) ∧ P.underlying kt = some (.int .i64)
theorem wpList_makeMap {t : TypeId} (hI : Inv T w0 w m)
    (k : ∀ r w', Inv T w0 w' (mpr r (fun _ => none) :: m) → wpList P ops Q rest (a.put dst (.map (some r))) w') : wpList P ops Q (⟨dst, .makeMap t none, ty, pos, af, none⟩ :: rest) a w :=
  wpList_plain rfl fun K hK => by
    have hr : (Instr.makeMap t none).run P w = .ok (.map (some w.heap.size)) (w.alloc (.map #[] 0)) := rfl
    unfold Oper.wp execOp
    simp only [Option.map_none, Sem.run_bind, hr, Result.andThen_ok, Sem.run_pure]
    refine hK _ _ (k w.heap.size (w.alloc (.map #[] 0)) ?_)
    have hsz : (w.alloc (.map #[] 0)).heap.size = w.heap.size + 1 := by show (w.heap.push _).size = _; simp
    exact hI.new ⟨rfl, rfl, rfl, by omega, fun j hj _ => (MapKept.heap_alloc w _).2 j hj⟩ ⟨#[], 0, (MapKept.heap_alloc w _).1, MapI.empty⟩ (by intro i hi; simp [mpr] at hi; omega) (by simp [mpr])
theorem run_lookup {t kt et : TypeId} {r : Nat} {f : Int → Option Value} {z : Value} (hT : MapT P t kt et) (hz : (P.info? et).map (·.zero) = some (some z)) (hs : (mpr r f).sat w) (j : Int) (c : Bool) :
    (Instr.lookup t (.map (some r)) (.int .i64 j) c).run P w = .ok (if c then .tuple #[(f j).getD z, .bool (f j).isSome] else (f j).getD z) w := by
  obtain ⟨es, clock, hb, hM⟩ := hs
  obtain ⟨inf, hinf, hz'⟩ := Option.map_eq_some_iff.1 hz
  have hzv : (zeroValue et).run P w = .ok z w := by simp [zeroValue, typeInfo, hinf, hz']
  rcases MapKept.findNow_spec (isKey_int j) es.toList 0 hM.isKey with ⟨h1, h2⟩ | ⟨i, e, h1, h2, h3⟩
  · have hf : f j = none := by
      cases hf : f j with
      | none => rfl
      | some v =>
        obtain ⟨i, x, hx, hk, _⟩ := (hM.at_ j v).1 hf
        exact absurd hk (h2 x (List.mem_of_getElem? (by simpa using hx)))
    simp [Instr.lookup, run_underlying hT.1, MapKept.run_getObj_map hb, MapKept.run_checkKey hT.2 (isKey_int j), MapKept.run_findKey hT.2 h1, Result.andThen, hzv, hf]
  · have hf : f j = some e.val := (hM.at_ j e.val).2 ⟨i, e, by simpa using h2, h3, rfl⟩
    simp [Instr.lookup, run_underlying hT.1, MapKept.run_getObj_map hb, MapKept.run_checkKey hT.2 (isKey_int j), MapKept.run_findKey hT.2 h1, Result.andThen, hf]
theorem wpList_lookup {x y : Operand} {t kt et : TypeId} {r : Nat} {f : Int → Option Value} {z : Value} {j : Int} {c : Bool} (hI : Inv T w0 w m) (hx : a.eval x = .map (some r)) (hy : a.eval y = .int .i64 j) (hm : mpr r f ∈ m) (hT : MapT P t kt et) (hz : (P.info? et).map (·.zero) = some (some z))
    (k : wpList P ops Q rest (a.put dst (if c then .tuple #[(f j).getD z, .bool (f j).isSome] else (f j).getD z)) w) : wpList P ops Q (⟨dst, .lookup t x y c, ty, pos, af, none⟩ :: rest) a w := by
  refine wpList_yld ?_ k
  unfold Yld execOp
  simp only [hx, hy, Sem.run_bind, run_lookup hT hz (hI.sat _ hm) j c, Result.andThen_ok]
  rfl
theorem wpList_mapUpdate {x y u : Operand} {t kt et : TypeId} {r : Nat} {f : Int → Option Value} {j : Int} {v : Value} (hI : Inv T w0 w m) (hx : a.eval x = .map (some r)) (hy : a.eval y = .int .i64 j) (hu : a.eval u = v) (hT : MapT P t kt et) (hup : Upd (mpr r f) (mpr r (fun i => if i = j then some v else f i)) m m')
    (k : ∀ w', Inv T w0 w' m' → wpList P ops Q rest (a.put dst undef) w') : wpList P ops Q (⟨dst, .mapUpdate t x y u, ty, pos, af, none⟩ :: rest) a w :=
  wpList_plain rfl fun K hK => by
    have hs : (mpr r f).sat w := by
      obtain ⟨m1, m2, rfl, _⟩ := hup.split
      exact hI.sat _ (by simp)
    obtain ⟨es, clock, hb, hM⟩ := hs
    have step : ∀ o : Obj, Step [r] w { w with heap := w.heap.setIfInBounds r o } := fun o => ⟨rfl, rfl, rfl, by simp, fun i _ hi => (MapKept.heap_set hb).2 i (by simpa using hi)⟩
    rcases MapKept.findNow_spec (isKey_int j) es.toList 0 hM.isKey with ⟨h1, h2⟩ | ⟨i, e, h1, h2, h3⟩
    · have hr : (Instr.mapUpdate t (.map (some r)) (.int .i64 j) v).run P w = .ok () { w with heap := w.heap.setIfInBounds r (.map (es.push ⟨.int .i64 j, v, clock⟩) (clock + 1)) } := by
        simp [Instr.mapUpdate, run_underlying hT.1, MapKept.run_getObj_map hb, MapKept.run_checkKey hT.2 (isKey_int j), MapKept.run_findKey hT.2 h1, MapKept.run_setObj_map _ hb, Result.andThen]
      unfold Oper.wp execOp
      simp only [hx, hy, hu, Sem.run_bind, hr, Result.andThen_ok, Sem.run_pure]
      refine hK _ _ (k _ ?_)
      exact hI.upd hup (step _) ⟨_, _, (MapKept.heap_set hb).1, hM.push h2 v clock⟩ (fun i hi => .inl hi) (by simp [mpr])
    · have hj : es[i]? = some e := by simpa using h2
      have hr : (Instr.mapUpdate t (.map (some r)) (.int .i64 j) v).run P w = .ok () { w with heap := w.heap.setIfInBounds r (.map (es.modify i fun e => { e with key := .int .i64 j, val := v }) clock) } := by
        simp [Instr.mapUpdate, run_underlying hT.1, MapKept.run_getObj_map hb, MapKept.run_checkKey hT.2 (isKey_int j), MapKept.run_findKey hT.2 h1, hj, h3, MapKept.run_keyThatStays (isKey_int j), MapKept.run_setObj_map _ hb, Result.andThen]
      unfold Oper.wp execOp
      simp only [hx, hy, hu, Sem.run_bind, hr, Result.andThen_ok, Sem.run_pure]
      refine hK _ _ (k _ ?_)
      exact hI.upd hup (step _) ⟨_, _, (MapKept.heap_set hb).1, hM.modify hj h3 v⟩ (fun i hi => .inl hi) (by simp [mpr])
end
end Go.Proofs.Ythncfjfgjdeajaa
