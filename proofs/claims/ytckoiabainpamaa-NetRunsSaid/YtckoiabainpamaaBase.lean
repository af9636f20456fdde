/-
  Plain helpers: bits of 32-bit numbers as the walk spells them, the sum (CRC-32) as a function on lists of bytes, and what it means that a slice value reads as a list of bytes. No condition.
-/
import Derived.WalkKit
import Derived.Laws.AppendOwnNone
namespace Go.Proofs.Ytckoiabainpamaa
open Go.RowKit

/-- one bit of the sum -/
def st1 (s : UInt32) : UInt32 := if s &&& 1 = 1 then (s >>> 1) ^^^ 3988292384 else s >>> 1
def stn : Nat → UInt32 → UInt32
  | 0, s => s
  | n+1, s => stn n (st1 s)
def byteStep (s : UInt32) (c : UInt8) : UInt32 := stn 8 (s ^^^ c.toUInt32)
def crcB (s : UInt32) (bs : List UInt8) : UInt32 := bs.foldl byteStep s

/-- the slice value with address a and the elements bs -/
def Bys (w : World) (a : Option Addr) (bs : List UInt8) : Prop := bs ≠ [] → ∃ b off, a = some ⟨b, off, none⟩ ∧ ∀ i (h : i < bs.length), w.cell? ⟨b, off+i, none⟩ = some (.int .u8 (bs[i].toNat : Int))

structure Part where
  a : Option Addr
  cap : Nat
  bs : List UInt8
def Parts (w : World) (a : Option Addr) (ps : List Part) : Prop := ps ≠ [] → ∃ b off, a = some ⟨b, off, none⟩ ∧ ∀ i (h : i < ps.length), w.cell? ⟨b, off+i, none⟩ = some (.slice ps[i].a ps[i].bs.length ps[i].cap) ∧ Bys w ps[i].a ps[i].bs ∧ ps[i].bs.length ≤ maxLen
def crcP (s : UInt32) (ps : List Part) : UInt32 := ps.foldl (fun s p => crcB s p.bs) s

theorem bits_xor32 (a b : UInt32) : bits .xor .u32 (a.toNat : Int) (b.toNat : Int) = ((a ^^^ b).toNat : Int) := by
  rw [u32_xor_nat a.toNat b.toNat (by have := a.toNat_lt; omega) (by have := b.toNat_lt; omega)]; simp
theorem bits_and32 (a b : UInt32) : bits .and .u32 (a.toNat : Int) (b.toNat : Int) = ((a &&& b).toNat : Int) := by
  rw [u32_and_nat a.toNat b.toNat (by have := a.toNat_lt; omega) (by have := b.toNat_lt; omega)]; simp
theorem bits_and1_32 (a : UInt32) : bits .and .u32 (a.toNat : Int) 1 = ((a &&& 1).toNat : Int) := bits_and32 a 1
theorem shr1_32 (a : UInt32) : (a.toNat : Int) / (2 : Int) = ((a >>> 1).toNat : Int) := by simp [Nat.shiftRight_eq_div_pow]
theorem st1_odd (s : UInt32) (h : s &&& 1 = 1) : bits .xor .u32 ((s.toNat : Int) / 2) 3988292384 = ((st1 s).toNat : Int) := by
  rw [shr1_32, st1, if_pos h]; exact bits_xor32 (s >>> 1) 3988292384
theorem st1_even (s : UInt32) (h : ¬ s &&& 1 = 1) : ((s.toNat : Int) / 2) = ((st1 s).toNat : Int) := by
  rw [shr1_32, st1, if_neg h]
theorem test_odd (s : UInt32) (h : s &&& 1 = 1) : (bits BinOp.and IntKind.u32 (s.toNat : Int) 1 == 1) = true := by
  rw [bits_and1_32, h]; rfl
theorem test_even (s : UInt32) (h : ¬ s &&& 1 = 1) : (bits BinOp.and IntKind.u32 (s.toNat : Int) 1 == 1) = false := by
  rw [bits_and1_32]
  rw [beq_eq_false_iff_ne]
  intro h2; apply h
  apply UInt32.toNat_inj.1
  have : ((1 : UInt32).toNat : Int) = 1 := rfl
  omega
theorem not32 (a : UInt32) : bits .xor .u32 4294967295 (a.toNat : Int) = ((~~~ a).toNat : Int) := by
  have := bits_xor32 4294967295 a
  rw [show ((4294967295 : UInt32).toNat : Int) = 4294967295 from rfl] at this
  rw [this]; congr 2
theorem c32 (c : UInt8) : ((c.toNat : Int) % 4294967296) = (c.toUInt32.toNat : Int) := by
  have := c.toNat_lt; simp; omega
theorem ret_int {k : IntKind} {a b : Int} (h : a = b) : Ending.returned (.int k a) = .returned (.int k b) := by rw [h]

theorem stn_succ (m : Nat) (h : m < 8) (s : UInt32) : stn (8 - m) s = stn (8 - (m+1)) (st1 s) := by
  rw [show 8 - m = (8 - (m+1)) + 1 from by omega, stn]
theorem crcB_take (s : UInt32) (bs : List UInt8) (j : Nat) (h : j < bs.length) : crcB s (bs.take (j+1)) = byteStep (crcB s (bs.take j)) bs[j] := by
  rw [List.take_succ_eq_append_getElem h, crcB, List.foldl_append]; rfl
theorem crcP_take (s : UInt32) (ps : List Part) (j : Nat) (h : j < ps.length) : crcP s (ps.take (j+1)) = crcB (crcP s (ps.take j)) ps[j].bs := by
  rw [List.take_succ_eq_append_getElem h, crcP, List.foldl_append]; rfl
/-- the sum of bytes -/
def crc (bs : List UInt8) : UInt32 := ~~~ (crcB 0xFFFFFFFF bs)
def flat (ps : List Part) : List UInt8 := ps.flatMap (·.bs)
theorem crcP_eq (s : UInt32) (ps : List Part) : crcP s ps = crcB s (flat ps) := by
  induction ps generalizing s with
  | nil => rfl
  | cons p ps ih => simp only [crcP, List.foldl_cons, flat, List.flatMap_cons, crcB, List.foldl_append] at *; exact ih _
theorem crc_end (ps : List Part) : bits .xor .u32 IntKind.u32.max ((crcP 0xFFFFFFFF ps).toNat : Int) = ((crc (flat ps)).toNat : Int) := by
  show bits .xor .u32 4294967295 _ = _
  rw [not32, crcP_eq]; rfl
theorem crcB_append (s : UInt32) (a b : List UInt8) : crcB s (a ++ b) = crcB (crcB s a) b := by simp [crcB]

/-- a byte as a cell -/
def bv (c : UInt8) : Value := .int .u8 (c.toNat : Int)
theorem bv_one (bs : List UInt8) : ∀ u ∈ bs.map bv, u.oneCell' = true := by
  intro u hu
  obtain ⟨_, _, rfl⟩ := List.mem_map.1 hu
  rfl
theorem addr_add (b off i : Nat) : (⟨b, off, none⟩ : Addr).add i = ⟨b, off + i, none⟩ := by
  unfold Addr.add; split
  · subst_vars; rfl
  · rfl
theorem Bys.cells {w : World} {a : Addr} {bs : List UInt8} (h : Bys w (some a) bs) : ∀ j u, (bs.map bv)[j]? = some u → w.cell? (a.add j) = some u := by
  intro j u hu
  rw [List.getElem?_map] at hu
  obtain ⟨c, hc, rfl⟩ := Option.map_eq_some_iff.1 hu
  obtain ⟨hj, rfl⟩ := List.getElem?_eq_some_iff.1 hc
  obtain ⟨b, off, hab, hcell⟩ := h (by intro h; subst h; simp at hj)
  obtain rfl := Option.some.inj hab
  rw [addr_add]
  exact hcell j hj
theorem Bys.below {w w' : World} {a : Option Addr} {bs : List UInt8} (h : Bys w a bs) (hb : Below w.heap.size w w') : Bys w' a bs := by
  intro hn
  obtain ⟨b, off, hab, hc⟩ := h hn
  refine ⟨b, off, hab, fun i hi => ?_⟩
  have := hc i hi
  exact (hb.cell (World.block_lt_of_cell? _ _ this)).trans this
/-- a slice of the call's own, with the bytes bs -/
def Own (w : World) (base : Nat) (v : Value) (bs : List UInt8) : Prop := w.ownsRow base 5 1 v bs.length (bs.map bv)
theorem Own.val {w : World} {base : Nat} {v : Value} {bs : List UInt8} (h : Own w base v bs) : ∃ a cap, v = .slice a bs.length cap ∧ Bys w a bs ∧ bs.length ≤ maxLen ∧ bs.length ≤ cap ∧ cap ≤ maxLen ∧ (a = none → bs = [] ∧ cap = 0) ∧ ∀ x, a = some x → base ≤ x.block ∧ x.block < w.heap.size ∧ x = ⟨x.block, 0, none⟩ := by
  rcases h with ⟨h1, ⟨rfl, h0⟩ | ⟨g, cap, cur, rfl, hg, hh, hc, hm, hs, ht⟩⟩
  · have : bs = [] := List.eq_nil_of_length_eq_zero h0
    subst this
    exact ⟨none, 0, rfl, fun h => absurd rfl h, Nat.zero_le _, Nat.le_refl _, Nat.zero_le _, fun _ => ⟨rfl, rfl⟩, fun _ h => (nomatch h)⟩
  · have hlt := (Array.getElem?_eq_some_iff.1 hh).1
    refine ⟨_, cap, rfl, fun _ => ⟨g, 0, rfl, fun i hi => ?_⟩, Nat.le_trans hc hm, hc, hm, fun h => (nomatch h), fun x hx => ?_⟩
    · simp only [Nat.zero_add]
      rw [cell_of_row w g i cur 5 (0, 0) hh]
      have : (bs.map bv)[i]? = some (bv bs[i]) := by simp [hi]
      rw [← ht, List.getElem?_take] at this
      split at this
      · simpa [bv] using this
      · cases this
    · obtain rfl := Option.some.inj hx
      exact ⟨hg, hlt, rfl⟩
theorem Own.kept {w w' : World} {base : Nat} {v : Value} {bs : List UInt8} (h : Own w base v bs) (hb : Below w.heap.size w w') : Own w' base v bs := by
  refine ⟨h.1, ?_⟩
  rcases h.2 with h0 | ⟨g, cap, cur, rfl, hg, hh, hc, hm, hs, ht⟩
  · exact .inl h0
  · exact .inr ⟨g, cap, cur, rfl, hg, (hb.block g (Array.getElem?_eq_some_iff.1 hh).1).trans hh, hc, hm, hs, ht⟩

theorem Own.nil (w : World) (base : Nat) : Own w base (.slice none 0 0) [] := World.ownsRow_nil w base 5 1
/-- a []byte that came in -/
structure ByArg (w : World) (a : Option Addr) (c : Nat) (bs : List UInt8) : Prop where
  bys : Bys w a bs
  nil : a = none → c = 0
  le : bs.length ≤ c
  reach : c ≤ 140737488351232
theorem ByArg.below {w w' : World} {a : Option Addr} {c : Nat} {bs : List UInt8} (h : ByArg w a c bs) (hb : Below w.heap.size w w') : ByArg w' a c bs :=
  ⟨h.bys.below hb, h.nil, h.le, h.reach⟩
theorem Own.arg {w : World} {base : Nat} {v : Value} {bs : List UInt8} (h : Own w base v bs) : ∃ a cap, v = .slice a bs.length cap ∧ Bys w a bs ∧ (a = none → cap = 0) := by
  obtain ⟨a, cap, hv, hb, _, _, _, hn, _⟩ := h.val
  exact ⟨a, cap, hv, hb, fun h => (hn h).2⟩

/-- append of bytes that are wherever, onto a slice of the call's own -/
theorem wpList_append_bys {P : Program} {w : World} {ops : Array Oper} {rest : List Oper} {o : Oper} {a : Act} {Q : Exit → Act → World → Prop} (hgd : o.guard = none) (s x : Operand) (t : TypeId)
    (ho : o.op = .call { callee := .builtin .append, args := #[s, x], argTypes := #[t, t] })
    (ht : P.underlying t = some (.slice 5)) (hi : (P.info? 5).map (fun i => (i.zero, i.size, i.bytes)) = some (some (.int .u8 0), 1, 1))
    (base : Nat) (v : Value) (bs : List UInt8) (hs : a.eval s = v) (hown : Own w base v bs)
    (ao : Option Addr) (cs : List UInt8) (n c : Nat) (hx : a.eval x = .slice ao n c) (hn : n = cs.length) (hnone : ao = none → c = 0) (hb : Bys w ao cs)
    (hl : bs.length + cs.length ≤ 140737488355328) (hbase : base ≤ w.heap.size)
    (h : ∀ v' w', Own w' base v' (bs ++ cs) → Below base w w' → wpList P ops Q rest (a.put o.dst v') w') : wpList P ops Q (o :: rest) a w := by
  subst hn
  obtain ⟨i, hi, hz, hsz, hby⟩ := info_parts hi
  have hrow : ∀ k, v.ownBlock = some k → base ≤ k := fun k hk => (World.ownsRow.lt hown k hk).1
  have fin : ∀ v' w', w'.ownsRow base 5 1 v' (bs.length + cs.length) (bs.map bv ++ cs.map bv) → w.grownBy w' v.ownBlock → wpList P ops Q rest (a.put o.dst v') w' := by
    intro v' w' h1 h2
    refine h v' w' (by unfold Own; rw [List.length_append, List.map_append]; exact h1) ((Below.refl _ _).grown h2 hbase hrow)
  cases ao with
  | some ad =>
    refine wpList_append_own w hgd s x t ho base 5 i (.int .u8 0) 1 1 ht hi hz hsz hby rfl (by decide) v bs.length (bs.map bv) hs hown ad cs.length c (cs.map bv) hx (by simp) hb.cells (bv_one _) (by unfold maxLen; omega) (by omega) hbase (fun v' w' h1 h2 _ => fin v' w' h1 h2)
  | none =>
    obtain rfl := hnone rfl
    have hcs : cs = [] := by
      by_cases hcs : cs = []
      · exact hcs
      · obtain ⟨_, _, h, _⟩ := hb hcs; cases h
    subst hcs
    refine wpList_append_own_none hgd s x t ho base 5 i 1 ht hi v bs.length (bs.map bv) hs hown hx ?_
    exact fin v w (by simpa [Own] using hown) (World.grownBy.refl _ _)
end Go.Proofs.Ytckoiabainpamaa
