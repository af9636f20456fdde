/-
  Slices of bytes as lists of bytes: made, appended to, stored into, turned to strings. Conditions: the form's own reach.
-/
import Derived.Test.YtckoiabainpamaaSl2
import Derived.Test.YtckoiabainpamaaReg2
import Derived.Test.YtckoiabainpamaaBase
import Derived.Laws.OwnMore
import Derived.Laws.BytesArg
import Derived.Laws.Strings
import Derived.Laws.MakeOwn
namespace Go.Proofs.Ytckoiabainpamaa
open Go.RowKit

theorem step_of_grown {w w' : World} {row : Option Nat} (h : w.grownBy w' row) : Step row.toList w w' :=
  ⟨h.os, h.tape, h.output, h.size, fun k hk hn => h.block k hk (fun e => hn (by subst e; simp))⟩

theorem rd_of_bys {w : World} {a : Option Addr} {bs : List UInt8} (h : Bys w a bs) : Rd w a (bs.map bv) := by
  intro j u hj
  rw [List.getElem?_map] at hj
  obtain ⟨c, hc, rfl⟩ := Option.map_eq_some_iff.1 hj
  obtain ⟨hj2, rfl⟩ := List.getElem?_eq_some_iff.1 hc
  clear hj hc
  obtain ⟨b, off, hab, hcell⟩ := h (by intro h; subst h; simp at hj2)
  exact ⟨b, off, hab, hcell j hj2⟩
theorem bys_of_rd {w : World} {a : Option Addr} {bs : List UInt8} (h : Rd w a (bs.map bv)) : Bys w a bs := by
  intro hn
  cases bs with
  | nil => exact absurd rfl hn
  | cons c cs =>
    obtain ⟨b, off, hab, _⟩ := h 0 (bv c) rfl
    refine ⟨b, off, hab, fun i hi => ?_⟩
    obtain ⟨b', off', hab', hc⟩ := h i (bv (c :: cs)[i]) (by rw [List.getElem?_map, List.getElem?_eq_getElem hi]; rfl)
    rw [hab] at hab'
    cases hab'
    exact hc
/-- a slice of slices of bytes -/
theorem parts_of_rd {w : World} {a : Option Addr} {ps : List Part} (h : Rd w a (ps.map fun p => .slice p.a p.bs.length p.cap)) (hp : ∀ p ∈ ps, Rd w p.a (p.bs.map bv) ∧ p.bs.length ≤ maxLen) : Parts w a ps := by
  intro hn
  cases ps with
  | nil => exact absurd rfl hn
  | cons p qs =>
    obtain ⟨b, off, hab, _⟩ := h 0 _ rfl
    refine ⟨b, off, hab, fun i hi => ?_⟩
    obtain ⟨b', off', hab', hc⟩ := h i (.slice (p :: qs)[i].a (p :: qs)[i].bs.length (p :: qs)[i].cap) (by rw [List.getElem?_map, List.getElem?_eq_getElem hi]; rfl)
    rw [hab] at hab'
    cases hab'
    have := hp (p :: qs)[i] (List.getElem_mem _)
    exact ⟨hc, bys_of_rd this.1, this.2⟩

theorem parts_one {w : World} {a' a : Option Addr} {c : Nat} {bs : List UInt8} (h : Rd w a' [.slice a bs.length c]) (hr : Rd w a (bs.map bv)) (hl : bs.length ≤ maxLen) : Parts w a' [⟨a, c, bs⟩] :=
  parts_of_rd h (fun p hp => by obtain rfl := List.mem_singleton.1 hp; exact ⟨hr, hl⟩)

section
variable {P : Program} {ops : Array Oper} {Q : Exit → Act → World → Prop} {a : Act} {rest : List Oper} {T : List Nat} {w0 w : World} {m m' : List Res} {dst : Option Tmp} {ty : TypeId} {pos : String} {af : Array Edge}

/-- make([]T, 0, c) -/
theorem wpList_make0 {t e size bytes c : Nat} {kl kc : IntKind} {z : Value} {x y : Operand} (hI : Inv T w0 w m) (hT : SlT P t e size bytes z) (hx : a.eval x = .int kl 0) (hy : a.eval y = .int kc (c : Int)) (hb : bytes * c ≤ 281474976710656) (h63 : c ≤ maxLen)
    (k : ∀ b w', Inv T w0 w' (osl e size (.slice (some ⟨b, 0, none⟩) 0 c) 0 [] :: m) → wpList P ops Q rest (a.put dst (.slice (some ⟨b, 0, none⟩) 0 c)) w') :
    wpList P ops Q (⟨dst, .makeSlice t x y, ty, pos, af, none⟩ :: rest) a w :=
  wpList_plain rfl fun K hK => by
    obtain ⟨i, hi, hz, rfl, rfl⟩ := hT.info
    obtain ⟨w', hr, ho, hg⟩ := run_make_own (P := P) w 0 t e i z i.size hT.und hi hz rfl kl kc c hb h63 (Nat.zero_le _)
    unfold Oper.wp execOp
    simp only [hx, hy, Sem.run_bind, hr, Result.andThen_ok, Sem.run_pure]
    refine hK _ _ (k w.heap.size w' (hI.new (step_of_grown hg) ho ?_ ?_))
    · intro j hj
      have hj : j = w.heap.size := by simpa [osl, Value.ownBlock] using hj
      subst hj
      have := ho.lt w.heap.size rfl
      exact ⟨Nat.le_refl _, this.2⟩
    · simp [osl, Value.ownBlock]
/-- make([]T, n) -/
theorem wpList_makeN {t e size bytes n : Nat} {kl kc : IntKind} {z : Value} {x y : Operand} (hI : Inv T w0 w m) (hT : SlT P t e size bytes z) (hx : a.eval x = .int kl (n : Int)) (hy : a.eval y = .int kc (n : Int)) (hb : bytes * n ≤ 281474976710656) (h63 : n ≤ maxLen)
    (k : ∀ b w', Inv T w0 w' (osl e size (.slice (some ⟨b, 0, none⟩) n n) n (madeCells z.cells (n * size)).toList :: m) → wpList P ops Q rest (a.put dst (.slice (some ⟨b, 0, none⟩) n n)) w') :
    wpList P ops Q (⟨dst, .makeSlice t x y, ty, pos, af, none⟩ :: rest) a w :=
  wpList_plain rfl fun K hK => by
    obtain ⟨i, hi, hz, rfl, rfl⟩ := hT.info
    obtain ⟨w', hr, ho, hg⟩ := run_make_full (P := P) w 0 t e i z i.size hT.und hi hz rfl kl kc n hb h63 (Nat.zero_le _)
    unfold Oper.wp execOp
    simp only [hx, hy, Sem.run_bind, hr, Result.andThen_ok, Sem.run_pure]
    refine hK _ _ (k w.heap.size w' (hI.new (step_of_grown hg) ho ?_ ?_))
    · intro j hj
      have hj : j = w.heap.size := by simpa [osl, Value.ownBlock] using hj
      subst hj
      have := ho.lt w.heap.size rfl
      exact ⟨Nat.le_refl _, this.2⟩
    · simp [osl, Value.ownBlock]
/-- []T{} -/
theorem wpList_bslice0 {t e size bytes : Nat} {z : Value} (hI : Inv T w0 w m) (hT : SlT P t e size bytes z)
    (k : ∀ b w', Inv T w0 w' (osl e size (.slice (some ⟨b, 0, none⟩) 0 0) 0 [] :: m) → wpList P ops Q rest (a.put dst (.slice (some ⟨b, 0, none⟩) 0 0)) w') :
    wpList P ops Q (⟨dst, .buildSlice t 0 #[], ty, pos, af, none⟩ :: rest) a w :=
  wpList_plain rfl fun K hK => by
    obtain ⟨i, hi, hz, rfl, rfl⟩ := hT.info
    unfold Oper.wp execOp
    have hrun : (Instr.buildSlice t 0 ((#[] : Array (Nat × Operand)).map fun (i, x) => (i, a.eval x))).run P w = .ok (.slice (some ⟨w.heap.size, 0, none⟩) 0 0) (w.alloc (.cells #[] e)) := by
      simp only [Instr.buildSlice, Sem.run_bind, run_underlying hT.und, Result.andThen_ok, run_sizeOf' (show (P.info? e).map (·.size) = some i.size by rw [hi]; rfl), Nat.zero_mul, Nat.not_lt_zero, gt_iff_lt, if_false, if_true, Sem.run_pure, Array.map_empty]
      rw [show Array.range 0 = #[] from by decide]
      simp only [Array.map_empty, Instr.fill]
      rfl
    simp only [Sem.run_bind, hrun, Result.andThen_ok, Sem.run_pure]
    refine hK _ _ (k w.heap.size _ ?_)
    refine hI.new ⟨rfl, rfl, rfl, by simp, fun k hk _ => _root_.Go.heap_alloc_old w _ hk⟩ ?_ (by simp [osl, Value.ownBlock]) (by simp [osl, Value.ownBlock])
    exact ⟨by simp, .inr ⟨w.heap.size, 0, #[], rfl, Nat.zero_le _, heap_alloc_new w _, Nat.le_refl _, Nat.zero_le _, by simp, by simp⟩⟩

theorem getElem?_splice (cs : List Value) (off : Nat) (vs : List Value) (h : off + vs.length ≤ cs.length) (i : Nat) : (splice cs off vs)[i]? = if off ≤ i ∧ i < off + vs.length then vs[i - off]? else cs[i]? := by
  unfold splice
  have hl : (cs.take off).length = off := by simp; omega
  rw [List.append_assoc]
  by_cases h1 : i < off
  · rw [List.getElem?_append_left (by omega), List.getElem?_take, if_pos h1, if_neg (by omega)]
  · rw [List.getElem?_append_right (by omega), hl]
    by_cases h2 : i < off + vs.length
    · rw [List.getElem?_append_left (by omega), if_pos (by omega)]
    · rw [List.getElem?_append_right (by omega), List.getElem?_drop, if_neg (by omega)]
      congr 1; omega
theorem length_splice (cs : List Value) (off : Nat) (vs : List Value) (h : off + vs.length ≤ cs.length) : (splice cs off vs).length = cs.length := by
  simp [splice]; omega
theorem take_splice (cs : List Value) (off n : Nat) (vs : List Value) (h : off + vs.length ≤ n) (hn : n ≤ cs.length) : (splice cs off vs).take n = splice (cs.take n) off vs := by
  apply List.ext_getElem?
  intro i
  rw [List.getElem?_take, getElem?_splice cs off vs (by omega), getElem?_splice (cs.take n) off vs (by simp; omega), List.getElem?_take]
  by_cases h1 : i < n
  · simp [h1]
  · rw [if_neg h1, if_neg (by omega), if_neg h1]

/-- a store into a slice of the call's own -/
theorem wpList_store_osl {x y : Operand} {t q g j e size n cap : Nat} {xs vs : List Value} (hI : Inv T w0 w m) (hx : a.eval x = .pointer (some ⟨g, j, none⟩)) (hv : (a.eval y).cells = vs.toArray)
    (hu : Upd (osl e size (.slice (some ⟨g, 0, none⟩) n cap) n xs) (osl e size (.slice (some ⟨g, 0, none⟩) n cap) n (splice xs j vs)) m m')
    (hn : (P.info? t).map (·.size) = some q) (hl : vs.length = q) (hj : j + q ≤ xs.length) (h1 : ∀ u ∈ vs, u.oneCell' = true)
    (k : ∀ w', Inv T w0 w' m' → wpList P ops Q rest (a.put dst undef) w') : wpList P ops Q (⟨dst, .store t x y, ty, pos, af, none⟩ :: rest) a w :=
  wpList_plain rfl fun K hK => by
    have hown : w.ownsRow 0 e size (.slice (some ⟨g, 0, none⟩) n cap) n xs := by
      obtain ⟨m1, m2, rfl, _⟩ := hu.split
      exact hI.sat (osl e size (.slice (some ⟨g, 0, none⟩) n cap) n xs) (by simp)
    obtain ⟨hlen, h0 | ⟨g', cap', cur, hv', _, hg, hnc, hcm, hcs, ht⟩⟩ := hown
    · exact absurd h0.1 (by simp)
    · cases hv'
      have hcl : n * size ≤ cur.toList.length := by simp only [Array.length_toList, hcs]; exact Nat.mul_le_mul_right _ hnc
      have hg' : w.heap[g]? = some (.cells cur.toList.toArray e (0, 0)) := by simpa using hg
      obtain ⟨w', hr, hs, hsz, hh⟩ := run_storeVar (P := P) hn vs hv hl h1 hg' j (by omega)
      unfold Oper.wp execOp
      simp only [hx, Instr.storeAt, Instr.sureAddr, Sem.run_bind, Sem.run_pure, Result.andThen_ok, hr]
      refine hK _ _ (k w' (hI.upd hu (hs.mono (by simp [osl, Value.ownBlock])) ?_ (fun k hk => .inl hk) (by simp [osl, Value.ownBlock])))
      refine ⟨by rw [length_splice _ _ _ (by omega)]; exact hlen, .inr ⟨g, cap, _, rfl, Nat.zero_le _, hh, hnc, hcm, ?_, ?_⟩⟩
      · rw [List.size_toArray, length_splice _ _ _ (by omega)]
        simpa using hcs
      · rw [take_splice _ _ _ _ (by omega) hcl, ht]

/-- a number stored into a slice of the call's own -/
theorem wpList_store_osl1 {x y : Operand} {t g j e size n cap : Nat} {kd : IntKind} {v : Int} {xs : List Value} (hI : Inv T w0 w m) (hx : a.eval x = .pointer (some ⟨g, j, none⟩)) (hv : a.eval y = .int kd v)
    (hu : Upd (osl e size (.slice (some ⟨g, 0, none⟩) n cap) n xs) (osl e size (.slice (some ⟨g, 0, none⟩) n cap) n (splice xs j [.int kd v])) m m')
    (hn : (P.info? t).map (·.size) = some 1) (hj : j < xs.length)
    (k : ∀ w', Inv T w0 w' m' → wpList P ops Q rest (a.put dst undef) w') : wpList P ops Q (⟨dst, .store t x y, ty, pos, af, none⟩ :: rest) a w :=
  wpList_store_osl hI hx (vs := [.int kd v]) (by rw [hv]; rfl) hu hn rfl (by omega) (by simp [Value.oneCell']) k
theorem run_tostr {src e dst0 : TypeId} (hs : P.underlying src = some (.slice e)) (he : P.underlying e = some (.int .u8)) (hd : P.underlying dst0 = some .string) {ao : Option Addr} {n c : Nat} {bs : List UInt8} (hr : Rd w ao (bs.map bv)) (hn : n = bs.length) :
    (convert src dst0 (.slice ao n c)).run P w = .ok (.string ⟨bs.toArray⟩) w := by
  subst hn
  have key : ∀ b off, (∀ i (_ : i < bs.length), w.cell? ⟨b, off + i, none⟩ = some (.int .u8 (bs[i].toNat : Int))) → (convert src dst0 (.slice (some ⟨b, off, none⟩) bs.length c)).run P w = .ok (.string ⟨bs.toArray⟩) w := by
    intro b off hc
    have := run_convert_bytes_arg (P := P) w src e hs he b off bs.length c (bs.map fun c => (c.toNat : Int)) (by simp) (fun i hi => by rw [hc i hi]; simp [hi]) dst0 hd
    rw [this]
    congr 3
    simp only [strOfNums, List.map_map]
    congr 2
    conv => rhs; rw [← List.map_id bs]
    apply List.map_congr_left
    intro x _
    simp
  cases bs with
  | nil =>
    cases ao with
    | none => exact run_convert_bytes_nil (P := P) w src e hs he 0 c dst0 hd
    | some ad =>
      rw [run_convert_bytes_string w src dst0 e _ _ c hs he hd]
      simp [Conv.bytesToString, loadCells, loadCellsFrom]
      rfl
  | cons x xs =>
    obtain ⟨b, off, rfl, hc⟩ := bys_of_rd hr (by simp)
    exact key b off hc
/-- string(b) -/
theorem wpList_tostr {src e dst0 : TypeId} {x : Operand} (hs : P.underlying src = some (.slice e)) (he : P.underlying e = some (.int .u8)) (hd : P.underlying dst0 = some .string) {ao : Option Addr} {n c : Nat} {bs : List UInt8} (hx : a.eval x = .slice ao n c)
    (hr : Rd w ao (bs.map bv)) (hn : n = bs.length) (k : wpList P ops Q rest (a.put dst (.string ⟨bs.toArray⟩)) w) : wpList P ops Q (⟨dst, .convert src dst0 x, ty, pos, af, none⟩ :: rest) a w := by
  refine wpList_yld ?_ k
  unfold Yld execOp
  simp only [hx, Sem.run_bind, run_tostr hs he hd hr hn, Result.andThen_ok, Sem.run_pure]
end
end Go.Proofs.Ytckoiabainpamaa
