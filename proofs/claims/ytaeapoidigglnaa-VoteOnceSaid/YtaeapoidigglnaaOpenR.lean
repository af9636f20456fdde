/-
  How arguments that came in are opened, by the shape of their type: which cells they have and what these hold; slices of such. Conditions: the form's own reach.
-/
import Derived.Test.YtaeapoidigglnaaFlat
import Derived.ProofKit
import Derived.OpenShut
import Derived.SizedLaws
namespace Go.Proofs.Ytaeapoidigglnaa
open Go.RowKit

/-- the cells of a row in memory -/
def CellsAt (w : World) (b off : Nat) (vs : List Value) : Prop := ∀ j (h : j < vs.length), w.cell? ⟨b, off + j, none⟩ = some vs[j]

def All2 (w : World) : List (World → Value → Prop) → List Value → Prop
  | [], [] => True
  | p :: ps, v :: vs => p w v ∧ All2 w ps vs
  | _, _ => False

theorem All2.length {w : World} : ∀ {ps : List (World → Value → Prop)} {vs : List Value}, All2 w ps vs → vs.length = ps.length
  | [], [], _ => rfl
  | _ :: _, _ :: _, h => by simp [All2.length h.2]
theorem All2.append {w : World} : ∀ {ps : List (World → Value → Prop)} {vs : List Value} {qs : List (World → Value → Prop)} {us : List Value}, All2 w ps vs → All2 w qs us → All2 w (ps ++ qs) (vs ++ us)
  | [], [], _, _, _, h => h
  | _ :: _, _ :: _, _, _, h, h' => ⟨h.1, All2.append h.2 h'⟩

def pInt (_ : World) (v : Value) : Prop := ∃ z, v = iv z ∧ (Lit.int .i64 z).wf = true
def pBool (_ : World) (v : Value) : Prop := ∃ b, v = .bool b
/-- a slice whose elements have the cells ps -/
structure SlArg (w : World) (a : Option Addr) (len c : Nat) (ps : List (World → Value → Prop)) (row : Nat → List Value) : Prop where
  nil : a = none → len = 0 ∧ c = 0
  le : len ≤ c
  reach : c ≤ 140737488351232
  row : ∀ i, i < len → All2 w ps (row i) ∧ ∃ b off, a = some ⟨b, off, none⟩ ∧ CellsAt w b (off + i * ps.length) (row i)
def pSlice (ps : List (World → Value → Prop)) (w : World) (v : Value) : Prop := ∃ a len c row, v = .slice a len c ∧ SlArg w a len c ps row
def pStr (_ : World) (v : Value) : Prop := ∃ s, v = .string s ∧ s.size ≤ 140737488351232
def pU8 (_ : World) (v : Value) : Prop := ∃ c : UInt8, v = .int .u8 (c.toNat : Int)

/-- whatever reads as t has the cells ps -/
structure CR (P : Program) (t : TypeId) (ps : List (World → Value → Prop)) : Prop where
  cells : P.cellsOf t = ps.length
  all : ∀ (H : Type) (enc : TypeId × Value → H) (w : World) (fuel : Nat) (cs : List Value) (x : DataW H × List MemPlace), DataW.trod enc P w 0 (fun _ => true) true fuel t cs = some x → (∀ n ∈ x.1.weights P t, n ≤ reachBytes) → All2 w ps cs

section
variable {P : Program}
theorem CR.int {t : TypeId} (ht : P.underlying t = some (.int .i64)) (hc : P.cellsOf t = 1) : CR P t [pInt] :=
  ⟨hc, fun H enc w fuel cs x h _ => by
    obtain ⟨n, rfl, _, hw⟩ := DataW.trod_int ht h
    exact ⟨⟨n, rfl, hw⟩, trivial⟩⟩
theorem CR.u8 {t : TypeId} (ht : P.underlying t = some (.int .u8)) (hc : P.cellsOf t = 1) : CR P t [pU8] :=
  ⟨hc, fun H enc w fuel cs x h _ => by
    obtain ⟨n, rfl, _, hw⟩ := DataW.trod_int ht h
    have : 0 ≤ n ∧ n ≤ 255 := by simpa [Lit.wf, IntKind.min, IntKind.max, IntKind.bits, IntKind.signed] using hw
    exact ⟨⟨UInt8.ofNat n.toNat, by simp; omega⟩, trivial⟩⟩
theorem CR.bool {t : TypeId} (ht : P.underlying t = some .bool) (hc : P.cellsOf t = 1) : CR P t [pBool] :=
  ⟨hc, fun H enc w fuel cs x h _ => by
    obtain ⟨n, rfl, _⟩ := DataW.trod_bool ht h
    exact ⟨⟨n, rfl⟩, trivial⟩⟩

/-- fields: where each begins, its type, its cells -/
def FieldsR (P : Program) : List (TypeId × Nat) → Nat → List (World → Value → Prop) → Prop
  | [], _, ps => ps = []
  | x :: l, o, ps => x.2 = o ∧ ∃ qs rs, CR P x.1 qs ∧ FieldsR P l (o + qs.length) rs ∧ ps = qs ++ rs
theorem FieldsR.nil {o : Nat} : FieldsR P [] o [] := rfl
theorem FieldsR.cons {t o : Nat} {l : List (TypeId × Nat)} {qs rs : List (World → Value → Prop)} (h : CR P t qs) (hr : FieldsR P l (o + qs.length) rs) : FieldsR P ((t, o) :: l) o (qs ++ rs) := ⟨rfl, qs, rs, h, hr, rfl⟩

theorem weights_each {H : Type} {ts : List TypeId} {ds : List (DataW H)} (h : ∀ n ∈ DataW.weightsEach P ts ds, n ≤ reachBytes) {j : Nat} {t : TypeId} {d : DataW H} (ht : ts[j]? = some t) (hd : ds[j]? = some d) : ∀ n ∈ d.weights P t, n ≤ reachBytes :=
  fun n hn => h n (DataW.weights_mem_each ht hd n hn)
theorem weights_all {H : Type} {e : TypeId} : ∀ {ds : List (DataW H)}, (∀ n ∈ DataW.weightsAll P e ds, n ≤ reachBytes) → ∀ d ∈ ds, ∀ n ∈ d.weights P e, n ≤ reachBytes
  | d0 :: ds, h, d, hd, n, hn => by
    simp only [DataW.weightsAll, List.mem_append] at h
    rcases List.mem_cons.1 hd with rfl | hd
    · exact h n (.inl hn)
    · exact weights_all (fun n hn => h n (.inr hn)) d hd n hn

theorem fields_cells {H : Type} {enc : TypeId × Value → H} {w : World} {n : Nat} {cs : List Value} : ∀ (l : List (TypeId × Nat)) (o : Nat) (ps : List (World → Value → Prop)) (xs : List (DataW H × List MemPlace)), FieldsR P l o ps → o + ps.length = cs.length → xs.length = l.length →
    (∀ (i : Nat) (f : TypeId × Nat), l[i]? = some f → DataW.trod enc P w 0 (fun _ => true) true n f.1 ((cs.drop f.2).take (P.cellsOf f.1)) = xs[i]?) →
    (∀ (i : Nat) f x, l[i]? = some f → xs[i]? = some x → ∀ k ∈ x.1.weights P f.1, k ≤ reachBytes) → All2 w ps (cs.drop o)
  | [], o, ps, xs, h, hl, _, _, _ => by
    have h : ps = [] := h
    subst h
    rw [List.drop_eq_nil_of_le (by simpa using (Nat.le_of_eq hl.symm))]
    trivial
  | f :: l, o, ps, xs, ⟨ho, qs, rs, hq, hr, hps⟩, hl, hx, hf, hw => by
    subst hps
    cases xs with
    | nil => simp at hx
    | cons x xs =>
      have h0 := hf 0 f rfl
      simp only [List.getElem?_cons_zero] at h0
      have h1 := hq.all H enc w n _ _ h0 (hw 0 f x rfl rfl)
      rw [ho, hq.cells] at h1
      simp only [List.length_append] at hl
      have h2 := fields_cells (cs := cs) l (o + qs.length) rs xs hr (by omega) (by simpa using hx) (fun i g hg => by simpa using hf (i + 1) g (by simpa using hg)) (fun i g y hg hy => hw (i + 1) g y (by simpa using hg) (by simpa using hy))
      have e : cs.drop o = (cs.drop o).take qs.length ++ cs.drop (o + qs.length) := by rw [← List.drop_drop, List.take_append_drop]
      rw [e]
      exact h1.append h2

def fieldAt (f : Field) : TypeId × Nat := (f.type, f.offset)
theorem CR.struct {t : TypeId} {l : List (TypeId × Nat)} {ps : List (World → Value → Prop)} (ht : P.underlying t = some (.struct (P.fieldsOf t))) (hl : (P.fieldsOf t).toList.map fieldAt = l) (hc : P.cellsOf t = ps.length) (h : FieldsR P l 0 ps) : CR P t ps :=
  ⟨hc, fun H enc w fuel cs x hx hw => by
    obtain ⟨xs, n, _, hxe, hlen, hxl, hf⟩ := DataW.trod_struct ht hx
    have hw' : ∀ n ∈ DataW.weightsEach P ((P.fieldsOf t).toList.map (·.type)) (xs.map (·.1)), n ≤ reachBytes := by
      rw [hxe] at hw
      simpa [DataW.weights, ht] using hw
    have := fields_cells (enc := enc) (w := w) (n := n) (cs := cs) l 0 ps xs h (by rw [Nat.zero_add, hlen, hc]) (by rw [← hl, hxl]; simp)
      (fun i g hg => by
        rw [← hl, List.getElem?_map] at hg
        obtain ⟨f, hf', rfl⟩ := Option.map_eq_some_iff.1 hg
        exact hf i f (by simpa using hf'))
      (fun i g x hg hx k hk => by
        rw [← hl, List.getElem?_map] at hg
        obtain ⟨f, hf', rfl⟩ := Option.map_eq_some_iff.1 hg
        exact weights_each hw' (j := i) (t := f.type) (d := x.1) (by simp [hf']) (by simp [hx]) k hk)
    simpa using this⟩

theorem CR.array {t e k : Nat} {ps : List (World → Value → Prop)} (ht : P.underlying t = some (.array k e)) (he : CR P e ps) (hc : P.cellsOf t = k * ps.length) : CR P t (List.replicate k ps).flatten :=
  ⟨by simp [hc], fun H enc w fuel cs x hx hw => by
    obtain ⟨xs, n, _, hxe, hlen, hxl, hf⟩ := DataW.trod_array ht hx
    have hw' : ∀ n ∈ DataW.weightsAll P e (xs.map (·.1)), n ≤ reachBytes := by
      rw [hxe] at hw
      simpa [DataW.weights, ht] using hw
    have key : ∀ (m i : Nat), i + m = k → All2 w (List.replicate m ps).flatten (cs.drop (i * ps.length)) := by
      intro m
      induction m with
      | zero =>
        intro i hi
        rw [List.drop_eq_nil_of_le (by rw [hlen, hc]; simp at hi; subst hi; exact Nat.le_refl _)]
        trivial
      | succ m ih =>
        intro i hi
        have h0 := hf i (by omega)
        have hxi : xs[i]? = some (xs[i]'(by omega)) := by simp [show i < xs.length by omega]
        rw [hxi, he.cells] at h0
        have h1 := he.all H enc w n _ _ h0 (weights_all hw' _ (List.mem_map.2 ⟨xs[i]'(by omega), List.getElem_mem _, rfl⟩))
        have h2 := ih (i + 1) (by omega)
        have e : cs.drop (i * ps.length) = (cs.drop (i * ps.length)).take ps.length ++ cs.drop ((i + 1) * ps.length) := by rw [Nat.succ_mul, ← List.drop_drop, List.take_append_drop]
        rw [e, List.replicate_succ, List.flatten_cons]
        exact h1.append h2
    simpa using key k 0 (by omega)⟩

theorem CR.slice {t e by_ : Nat} {ps : List (World → Value → Prop)} (ht : P.underlying t = some (.slice e)) (he : CR P e ps) (hc : P.cellsOf t = 1) (hpos : 0 < ps.length) (hby : P.bytesOf e = by_) (hb : 0 < by_) : CR P t [pSlice ps] :=
  ⟨hc, fun H enc w fuel cs x hx hw => by
    rcases DataW.trod_slice ht hx with ⟨rfl, _⟩ | ⟨a, len, cap, elems, rest, n, _, rfl, hxe, _, hl, hm, hel, hi, hsp, _⟩
    · exact ⟨⟨none, 0, 0, fun _ => [], rfl, fun _ => ⟨rfl, rfl⟩, Nat.le_refl _, by omega, fun i hi => by omega⟩, trivial⟩
    · rw [hxe] at hw
      simp only [DataW.weights, ht, List.mem_cons, List.mem_append, List.length_map] at hw
      have hsz : (elems.length + rest.length) * P.bytesOf e ≤ reachBytes := hw _ (.inl rfl)
      have hrest := (hsp rfl).1
      have hcap : cap ≤ 140737488351232 := by
        rw [hel, hrest, hby] at hsz
        have : cap * 1 ≤ (len + (cap - len)) * by_ := Nat.mul_le_mul (by omega) hb
        simp only [reachBytes] at hsz
        omega
      have elem : ∀ i, i < len → ∃ r : List Value, All2 w ps r ∧ r.length = ps.length ∧ ∀ j, j < ps.length → w.cell? ((a.add (i * ps.length)).add j) = r[j]? := by
        intro i hil
        have h0 := hi i hil
        have hxi : elems[i]? = some (elems[i]'(by omega)) := by simp [show i < elems.length by omega]
        rw [hxi, he.cells] at h0
        obtain ⟨r, hr, ht'⟩ := Option.bind_eq_some_iff.1 h0
        have hall := he.all H enc w n r _ ht' (weights_all (fun n hn => hw n (.inr (.inl hn))) _ (List.mem_map.2 ⟨elems[i]'(by omega), List.getElem_mem _, rfl⟩))
        obtain ⟨_, hrl, hat⟩ := World.cells?_some hr
        exact ⟨r, hall, hrl, hat⟩
      have each : ∀ i, ∃ r : List Value, i < len → All2 w ps r ∧ ∃ b off, some a = some ⟨b, off, none⟩ ∧ CellsAt w b (off + i * ps.length) r := by
        intro i
        by_cases hil : i < len
        · obtain ⟨r, hall, hrl, hat⟩ := elem i hil
          refine ⟨r, fun _ => ⟨hall, ?_⟩⟩
          obtain ⟨r0, _, hrl0, hat0⟩ := elem 0 (by omega)
          have hc0 := hat0 0 hpos
          have hr0 : r0[0]? = some (r0[0]'(by omega)) := by simp [show 0 < r0.length by omega]
          rw [hr0] at hc0
          have hs0 := World.cell?_spot hc0
          obtain ⟨b, off, spot⟩ := a
          have hspot : spot = none := by simpa [Addr.add] using hs0
          subst hspot
          refine ⟨b, off, rfl, fun j hj => ?_⟩
          have := hat j (by omega)
          rw [addr_add', addr_add'] at this
          rw [this]; simp [hj]
        · exact ⟨[], fun h => absurd h hil⟩
      obtain ⟨row, hrow⟩ := Classical.axiomOfChoice each
      exact ⟨⟨some a, len, cap, row, rfl, fun h => (nomatch h), hl, hcap, hrow⟩, trivial⟩⟩

/-- an argument whose value is a struct or an array -/
theorem open_agg {H : Type} {enc : TypeId × Value → H} {W : World} {t : TypeId} {v : Value} {d : DataW H} {p : List MemPlace} {base : Nat} {ps : List (World → Value → Prop)}
    (hR : CR P t ps) (ht : P.underlying t = some (.struct (P.fieldsOf t))) (hok : Value.okWide P W .any base t v) (h : DataW.Trod enc P W 0 (fun _ => true) true t v d p) (hw : ∀ n ∈ d.weights P t, n ≤ reachBytes) : ∃ cs : List Value, v = .agg cs.toArray ∧ All2 W ps cs := by
  obtain ⟨cs, rfl, _⟩ := Go.WideShapes.okWide_struct ht hok
  obtain ⟨fuel, hf⟩ := h
  exact ⟨cs.toList, by simp, hR.all H enc W fuel _ _ hf hw⟩
/-- an argument that is a slice -/
theorem open_sl {H : Type} {enc : TypeId × Value → H} {W : World} {t e : TypeId} {v : Value} {d : DataW H} {p : List MemPlace} {base : Nat} {ps : List (World → Value → Prop)}
    (hR : CR P t [pSlice ps]) (ht : P.underlying t = some (.slice e)) (hok : Value.okWide P W .any base t v) (h : DataW.Trod enc P W 0 (fun _ => true) true t v d p) (hw : ∀ n ∈ d.weights P t, n ≤ reachBytes) : ∃ a : Option Addr × Nat × Nat × (Nat → List Value), v = .slice a.1 a.2.1 a.2.2.1 ∧ SlArg W a.1 a.2.1 a.2.2.1 ps a.2.2.2 := by
  obtain ⟨a, len, cap, rfl⟩ := Go.WideShapes.okWide_slice ht hok
  obtain ⟨fuel, hf⟩ := h
  obtain ⟨⟨a', len', c', row, hv, hs⟩, _⟩ := hR.all H enc W fuel _ _ hf hw
  cases hv
  exact ⟨⟨a, len, cap, row⟩, rfl, hs⟩

theorem All2.ints {w : World} : ∀ {n : Nat} {vs : List Value}, All2 w (List.replicate n pInt) vs → ∃ zs : List Int, vs = zs.map iv ∧ zs.length = n ∧ ∀ z ∈ zs, (Lit.int .i64 z).wf = true
  | 0, [], _ => ⟨[], rfl, rfl, by simp⟩
  | n + 1, v :: vs, h => by
    obtain ⟨⟨z, rfl, hz⟩, h2⟩ := h
    obtain ⟨zs, rfl, hl, hw⟩ := All2.ints h2
    exact ⟨z :: zs, rfl, by simp [hl], by simpa using ⟨hz, hw⟩⟩

/-- a cell of an argument, read in a later world -/
theorem CellsAt.later {T : List Nat} {w0 w : World} {m : List Res} {b off : Nat} {vs : List Value} (hc : CellsAt w0 b off vs) (hI : Inv T w0 w m) (hb : b ∉ T) : CellsAt w b off vs := by
  intro j hj
  have h := hc j hj
  have hlt := World.block_lt_of_cell? _ _ h
  rw [← h]
  exact World.cell?_of_block (hI.old b hlt hb)
theorem run_loadFrom_at {w : World} {b off : Nat} {vs : List Value} (hc : CellsAt w b off vs) : ∀ (n i : Nat) (acc : Array Value), i + n = vs.length → (loadCellsFrom ⟨b, off, none⟩ i n acc).run P w = .ok (acc ++ (vs.drop i).toArray) w
  | 0, i, acc, h => by
    rw [List.drop_eq_nil_of_le (by omega)]; simp [loadCellsFrom]
  | n + 1, i, acc, h => by
    have hi : i < vs.length := by omega
    have hl : (load ((⟨b, off, none⟩ : Addr).add i)).run P w = .ok vs[i] w := by
      rw [addr_add', load, Sem.run, hc i hi]; rfl
    rw [loadCellsFrom, Sem.run_bind, hl, Result.andThen_ok, run_loadFrom_at hc n (i + 1) _ (by omega), List.drop_eq_getElem_cons hi]
    simp

variable {ops : Array Oper} {Q : Exit → Act → World → Prop} {a : Act} {rest : List Oper} {T : List Nat} {w0 w : World} {m : List Res} {dst : Option Tmp} {ty : TypeId} {pos : String} {af : Array Edge}
/-- a load out of an argument's memory -/
theorem wpList_load_arg {x : Operand} {t b off : Nat} {vs : List Value} (hI : Inv T w0 w m) (hx : a.eval x = .pointer (some ⟨b, off, none⟩)) (hc : CellsAt w0 b off vs) (hb : b ∉ T) (hT : AggT P t vs.length)
    (k : wpList P ops Q rest (a.put dst (.agg vs.toArray)) w) : wpList P ops Q (⟨dst, .load t x, ty, pos, af, none⟩ :: rest) a w := by
  refine wpList_yld ?_ k
  have hc' := hc.later hI hb
  unfold Yld execOp
  simp only [hx, Instr.loadAt, Instr.sureAddr, Sem.run_bind, Sem.run_pure, Result.andThen_ok, loadVar, hT.isAgg, if_true, run_sizeOf' hT.size, loadCells, run_loadFrom_at hc' vs.length 0 #[] (by omega)]
  simp
theorem wpList_load_arg1 {x : Operand} {t b off : Nat} {v : Value} (hI : Inv T w0 w m) (hx : a.eval x = .pointer (some ⟨b, off, none⟩)) (hc : CellsAt w0 b off [v]) (hb : b ∉ T) (hT : OneT P t)
    (k : wpList P ops Q rest (a.put dst v) w) : wpList P ops Q (⟨dst, .load t x, ty, pos, af, none⟩ :: rest) a w := by
  refine wpList_yld ?_ k
  have hc' := hc.later hI hb 0 (by simp)
  unfold Yld execOp
  simp only [Nat.add_zero, List.getElem_cons_zero] at hc'
  simp [hx, Instr.loadAt, Instr.sureAddr, Sem.run_bind, Sem.run_pure, Result.andThen_ok, loadVar, hT.isAgg, load, Sem.run, hc']
end
end Go.Proofs.Ytaeapoidigglnaa
