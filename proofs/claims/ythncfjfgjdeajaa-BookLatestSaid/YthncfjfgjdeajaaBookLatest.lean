/-
  The law BookLatest. No condition.
-/
import Derived.Test.YthncfjfgjdeajaaBookFit
import Derived.Test.YthncfjfgjdeajaaIArg
import Derived.Test.YthncfjfgjdeajaaMapI
import Derived.Test.YthncfjfgjdeajaaBuild1
import Derived.Test.YthncfjfgjdeajaaLatestLaw
namespace Go.Proofs.Ythncfjfgjdeajaa
open Go.RowKit
set_option maxRecDepth 100000
theorem mt75 : MapT Try.prog 75 3 4 := ⟨by kernel_rfl, by kernel_rfl⟩
theorem zero4' : (Try.prog.info? 4).map (·.zero) = some (some (.bool false)) := by kernel_rfl
section
variable {P : Program} {ops : Array Oper} {Q : Exit → Act → World → Prop} {a : Act} {rest : List Oper} {T : List Nat} {w0 w : World} {m : List Res} {dst : Option Tmp} {ty : TypeId} {pos : String} {af : Array Edge}
theorem wpList_lookup_as {x y : Operand} {t kt et : TypeId} {r : Nat} {f : Int → Option Value} {z u : Value} {j : Int} (hI : Inv T w0 w m) (hx : a.eval x = .map (some r)) (hy : a.eval y = .int .i64 j) (hm : mpr r f ∈ m) (hT : MapT P t kt et) (hz : (P.info? et).map (·.zero) = some (some z)) (hu : (f j).getD z = u)
    (k : wpList P ops Q rest (a.put dst u) w) : wpList P ops Q (⟨dst, .lookup t x y false, ty, pos, af, none⟩ :: rest) a w :=
  wpList_lookup hI hx hy hm hT hz (by rw [if_neg (by decide), hu]; exact k)
theorem wpList_load_iarg {x : Operand} {t b off : Nat} {zs : List Int} (hI : Inv T w0 w m) (hx : a.eval x = .pointer (some ⟨b, off, none⟩)) (hc : CellsAt w0 b off (zs.map (Value.int .i64))) (hb : b ∉ T) (hT : AggT P t (zs.map (Value.int .i64)).length)
    (k : wpList P ops Q rest (a.put dst (ia zs)) w) : wpList P ops Q (⟨dst, .load t x, ty, pos, af, none⟩ :: rest) a w := wpList_load_arg hI hx hc hb hT k
end
theorem and16_range (x : Int) : 0 ≤ bits BinOp.and IntKind.i64 x 65535 ∧ bits BinOp.and IntKind.i64 x 65535 ≤ 65535 := by
  have key : (BitVec.ofInt 64 x &&& BitVec.ofInt 64 65535).toNat ≤ 65535 := by
    rw [BitVec.toNat_and]
    exact Nat.le_trans Nat.and_le_right (by decide)
  have e : bits BinOp.and IntKind.i64 x 65535 = IntKind.i64.wrap (((BitVec.ofInt 64 x &&& BitVec.ofInt 64 65535).toNat : Nat) : Int) := rfl
  rw [e]
  generalize (BitVec.ofInt 64 x &&& BitVec.ofInt 64 65535).toNat = r at *
  simp [IntKind.wrap, IntKind.bits, IntKind.signed]
  omega
theorem nm2l {T : List Nat} {w0 w : World} {a b : Nat} {e1 e2 : TypeId} {z1 z2 : List Int} {m : List Res} (_ : Inv T w0 w (ib a e1 z1 :: ib b e2 z2 :: m)) : ∃ a' b', a' = a ∧ b' = b := ⟨a, b, rfl, rfl⟩
theorem nmr {T : List Nat} {w0 w : World} {a : Nat} {f : Int → Option Value} {m : List Res} (_ : Inv T w0 w (mpr a f :: m)) : ∃ a', a' = a := ⟨a, rfl⟩
set_option maxHeartbeats 6400000 in
theorem latest_walk (w0 : World) (a : Option Addr) (len c : Nat) (row : Nat → List Int) (h : IArg w0 a len 174 row) (turn : Int) :
    Calls Try.prog 15 #[.slice a len c, .int .i64 turn] w0 fun e w' => e = .returned (.bool true) ∧ Below w0.heap.size w0 w' := by
  have hI := Inv.start w0
  have hz := nau_len 870
  have l0 := h.reach
  by_cases h0 : len = 0
  · have hb0 : ((len : Int) == 0) = true := by simp [h0]
    clear h h0
    go_enter Try.func15, Try.ntmps15
    go_wp2_with (first | ((with_reducible refine wpList_on  (by with_unfolding_all rfl) ?_)) | (go_at_call 31; refine (fit05 _).mono ?_; rintro e w1 ⟨rfl, hw1⟩; replace hI := hI.call hw1; clear hw1))
    go_ret
    exact ⟨rfl, hI.below⟩
  have hb0 : ((len : Int) == 0) = false := by simp; omega
  by_cases hbig : 20 < len
  · have hb : decide ((20 : Int) < (len : Int)) = true := by simp; omega
    clear h h0
    go_enter Try.func15, Try.ntmps15
    go_wp2_with (first | ((with_reducible refine wpList_on  (by with_unfolding_all rfl) ?_)) | (go_at_call 31; refine (fit05 _).mono ?_; rintro e w1 ⟨rfl, hw1⟩; replace hI := hI.call hw1; clear hw1))
    go_ret
    exact ⟨rfl, hI.below⟩
  have hb : decide ((20 : Int) < (len : Int)) = false := by simp; omega
  have hlen20 : len ≤ 20 := by omega
  have hpos : 0 < len := by omega
  clear hbig h0
  go_enter Try.func15, Try.ntmps15
  go_upto_region 6 with (first | ((with_reducible refine wpList_on  (by with_unfolding_all rfl) ?_)) | (go_at_call 31; refine (fit05 _).mono ?_; rintro e w1 ⟨rfl, hw1⟩; replace hI := hI.call hw1; clear hw1) | ((with_reducible refine wpList_makeMap hI ?_); clear hI; intro r w hI))
  (try simp only [Act.put, List.setIfInBounds_toArray, List.set_cons_succ, List.set_cons_zero])
  clear hb hb0
  obtain ⟨r5, e5⟩ := nmr hI
  subst e5
  go_wp2_with fail
  go_loopg [7, 26] len (fun kk s7 i wr => ∃ (j : Nat) (f : Int → Option Value), kk = len - j ∧ j ≤ len ∧ i = .int .i64 j ∧ Hid (SeenOk row j f ∧ Uniq row j) ∧ Inv [] w0 wr [mpr r5 f])
  case atStart => exact ⟨0, _, by omega, by omega, rfl, Lib.hid ⟨SeenOk.start row, Uniq.start row⟩, hI⟩
  case round =>
    clear hI
    obtain ⟨j, f, rfl, hj, rfl, hG, hI⟩ := hrel
    by_cases hlj : j < len
    · obtain ⟨hxl, hxr, bq, off, rfl, hcella⟩ := h.row j hlj
      have hl3 : ((row j).map (Value.int .i64)).length = 174 := by simpa using hxl
      have hagga : AggT Try.prog 28 ((row j).map (Value.int .i64)).length := by rw [hl3]; exact agg28
      obtain ⟨k, hk⟩ : ∃ k, gi (row j) 0 = k := ⟨_, rfl⟩
      rcases hG.out.1 k with ⟨ha, hb⟩ | ⟨ha, hb⟩
      · have hfn : (f (gi (row j) 0)).getD (Value.bool false) = .bool true := by rw [hk, ha]; rfl
        clear h hG hxr hb ha hk
        generalize row j = x at *
        go_wp2_with (first | ((with_reducible refine wpList_on  (by with_unfolding_all rfl) ?_)) | (with_reducible refine wpList_load_iarg hI (by with_unfolding_all rfl) hcella (by simp) (by with_unfolding_all exact hagga) ?_) | ((with_reducible refine wpList_alloc_ia hI (by first | with_reducible exact zi22 | with_reducible exact zi24 | with_reducible exact zi25 | with_reducible exact zi26 | with_reducible exact zi28 | with_reducible exact zi73) ?_); clear hI; intro bx w hI) | ((with_reducible refine wpList_store_iw hI (by with_unfolding_all rfl) (by with_unfolding_all rfl) (by first | with_reducible exact uu0 | with_reducible exact uu1 | with_reducible exact uu2 | with_reducible exact uu3 | with_reducible exact uu4 | with_reducible exact uu5 | with_reducible exact uu6 | with_reducible exact uu7 | with_reducible exact uu8 | with_reducible exact uu9) (by first | with_reducible exact agg22 | with_reducible exact agg24 | with_reducible exact agg25 | with_reducible exact agg26 | with_reducible exact agg28 | with_reducible exact agg73) (by (repeat (first | rw [List.length_set] | rw [nau_len] | rw [sub_len] | rw [spl_len])) <;> omega) (by (repeat (first | rw [List.length_set] | rw [nau_len] | rw [sub_len] | rw [spl_len])) <;> omega) ?_); clear hI; intro w hI) | ((with_reducible refine wpList_load_i1 hI (by with_unfolding_all rfl) (by first | with_reducible exact mm0 | with_reducible exact mm1 | with_reducible exact mm2 | with_reducible exact mm3 | with_reducible exact mm4 | with_reducible exact mm5 | with_reducible exact mm6 | with_reducible exact mm7 | with_reducible exact mm8 | with_reducible exact mm9) (by first | with_reducible exact one3 | with_reducible exact one4 | with_reducible exact one31) (by (repeat (first | rw [List.length_set] | rw [nau_len] | rw [sub_len] | rw [spl_len])) <;> omega) ?_)) | (with_reducible refine wpList_lookup_as hI (by with_unfolding_all rfl) (by with_unfolding_all rfl) (by (first | with_reducible exact mm0 | with_reducible exact mm1 | with_reducible exact mm2 | with_reducible exact mm3 | with_reducible exact mm4 | with_reducible exact mm5 | with_reducible exact mm6 | with_reducible exact mm7 | with_reducible exact mm8 | with_reducible exact mm9)) mt75 zero4 hfn ?_))
        go_ret
        exact ⟨rfl, hI.below⟩
      · have hfn : (f (gi (row j) 0)).getD (Value.bool false) = .bool false := by rw [hk, ha]; rfl
        have hG2 : Hid (SeenOk row (j + 1) (fun i => if i = gi (row j) 0 then some (.bool true) else f i) ∧ Uniq row (j + 1)) := Lib.hid ⟨hG.out.1.step rfl, hG.out.2.step (fun i hi => by rw [hk]; exact hb i hi)⟩
        clear h hG hxr hb ha hk
        generalize hx : row j = x at *
        clear hx
        go_wp2_with (first | ((with_reducible refine wpList_on  (by with_unfolding_all rfl) ?_)) | (with_reducible refine wpList_load_iarg hI (by with_unfolding_all rfl) hcella (by simp) (by with_unfolding_all exact hagga) ?_) | ((with_reducible refine wpList_alloc_ia hI (by first | with_reducible exact zi22 | with_reducible exact zi24 | with_reducible exact zi25 | with_reducible exact zi26 | with_reducible exact zi28 | with_reducible exact zi73) ?_); clear hI; intro bx w hI) | ((with_reducible refine wpList_store_iw hI (by with_unfolding_all rfl) (by with_unfolding_all rfl) (by first | with_reducible exact uu0 | with_reducible exact uu1 | with_reducible exact uu2 | with_reducible exact uu3 | with_reducible exact uu4 | with_reducible exact uu5 | with_reducible exact uu6 | with_reducible exact uu7 | with_reducible exact uu8 | with_reducible exact uu9) (by first | with_reducible exact agg22 | with_reducible exact agg24 | with_reducible exact agg25 | with_reducible exact agg26 | with_reducible exact agg28 | with_reducible exact agg73) (by (repeat (first | rw [List.length_set] | rw [nau_len] | rw [sub_len] | rw [spl_len])) <;> omega) (by (repeat (first | rw [List.length_set] | rw [nau_len] | rw [sub_len] | rw [spl_len])) <;> omega) ?_); clear hI; intro w hI) | ((with_reducible refine wpList_load_i1 hI (by with_unfolding_all rfl) (by first | with_reducible exact mm0 | with_reducible exact mm1 | with_reducible exact mm2 | with_reducible exact mm3 | with_reducible exact mm4 | with_reducible exact mm5 | with_reducible exact mm6 | with_reducible exact mm7 | with_reducible exact mm8 | with_reducible exact mm9) (by first | with_reducible exact one3 | with_reducible exact one4 | with_reducible exact one31) (by (repeat (first | rw [List.length_set] | rw [nau_len] | rw [sub_len] | rw [spl_len])) <;> omega) ?_)) | (with_reducible refine wpList_lookup_as hI (by with_unfolding_all rfl) (by with_unfolding_all rfl) (by (first | with_reducible exact mm0 | with_reducible exact mm1 | with_reducible exact mm2 | with_reducible exact mm3 | with_reducible exact mm4 | with_reducible exact mm5 | with_reducible exact mm6 | with_reducible exact mm7 | with_reducible exact mm8 | with_reducible exact mm9)) mt75 zero4 hfn ?_) | ((with_reducible refine wpList_mapUpdate hI (by with_unfolding_all rfl) (by with_unfolding_all rfl) (by with_unfolding_all rfl) mt75 (by (first | with_reducible exact uu0 | with_reducible exact uu1 | with_reducible exact uu2 | with_reducible exact uu3 | with_reducible exact uu4 | with_reducible exact uu5 | with_reducible exact uu6 | with_reducible exact uu7 | with_reducible exact uu8 | with_reducible exact uu9)) ?_); clear hI; intro w hI))
        go_roundg (len - (j + 1))
        case measure => omega
        case rel => exact ⟨j + 1, _, by omega, by omega, by go_num, hG2, hI.sub (.cons _ (.refl _))⟩
    · obtain rfl : j = len := by omega
      have huq := Lib.hid hG.out.2
      clear hG
      obtain ⟨ht0, ht1⟩ := and16_range turn
      have hj1 : (1 : Int) ≤ (j : Int) := by omega
      go_upto_region 14 with fail
      obtain ⟨t, htl, hte⟩ : ∃ t : Nat, t < j ∧ bits BinOp.and IntKind.i64 turn 65535 % (j : Int) = (t : Int) := by
        refine ⟨(bits BinOp.and IntKind.i64 turn 65535 % (j : Int)).toNat, ?_, ?_⟩
        · have h1 := Int.emod_lt_of_pos (bits BinOp.and IntKind.i64 turn 65535) (show (0 : Int) < j by omega)
          have h2 := Int.emod_nonneg (bits BinOp.and IntKind.i64 turn 65535) (show (j : Int) ≠ 0 by omega)
          omega
        · rw [Int.toNat_of_nonneg (Int.emod_nonneg _ (by omega))]
      rw [hte]
      clear ht0 ht1 hte hj1
      (try simp only [Act.put, List.setIfInBounds_toArray, List.set_cons_succ, List.set_cons_zero])
      go_upto_region 15 with (first | ((with_reducible refine wpList_alloc_ia hI (by first | with_reducible exact zi22 | with_reducible exact zi24 | with_reducible exact zi25 | with_reducible exact zi26 | with_reducible exact zi28 | with_reducible exact zi73) ?_); clear hI; intro bx w hI))
      (try simp only [Act.put, List.setIfInBounds_toArray, List.set_cons_succ, List.set_cons_zero])
      obtain ⟨bB, bA, eB, eA⟩ := nm2l hI
      subst eB eA
      have hrow : ∀ i, i < j → (row i).length = 174 ∧ Wf (row i) := fun i hi => ⟨(h.row i hi).1, (h.row i hi).2.1⟩
      obtain ⟨fa, hfa⟩ : ∃ fa : Nat → Nat, fa = fun i => i := ⟨_, rfl⟩
      obtain ⟨fb, hfb⟩ : ∃ fb : Nat → Nat, fb = fun i => (i + t) % j := ⟨_, rfl⟩
      have fal : ∀ i, i < j → fa i < j := fun i hi => by rw [hfa]; exact hi
      have fbl : ∀ i, i < j → fb i < j := fun i hi => by rw [hfb]; exact turn_lt hpos
      have fas : ∀ i, i < j → ∃ q, q < j ∧ fa q = i := fun i hi => ⟨i, hi, by rw [hfa]⟩
      have fbs : ∀ i, i < j → ∃ q, q < j ∧ fb q = i := fun i hi => by rw [hfb]; exact turn_on i hi
      have hbka := Lib.hid (mS_bk (row := row) (idx := fa) j (fun i hi => hrow _ (fal i hi)))
      have hbkb := Lib.hid (mS_bk (row := row) (idx := fb) j (fun i hi => hrow _ (fbl i hi)))
      have hsame := Lib.hid (latest_same hrow fal fbl fas fbs huq.out)
      have hnone := Lib.hid (fun i (hi : i < j) => latest_no (row := row) (f := fa) hrow fal fas hi)
      clear fal fbl fas fbs huq
      replace hrow := Lib.hid hrow
      replace hI := hI.sub (m' := [ib bB 73 (nau 870), ib bA 73 (nau 870)]) (.cons_cons _ (.cons_cons _ (.cons _ (.refl _))))
      have sta : Hid (mS row fa 0 = nau 870) := Lib.hid rfl
      have stb : Hid (mS row fb 0 = nau 870) := Lib.hid rfl
      go_wp2_with fail
      go_loopg [10, 45] j (fun kk s10 i wr => ∃ l : Nat, kk = j - l ∧ l ≤ j ∧ i = .int .i64 l ∧ Inv [] w0 wr [ib bB 73 (mS row fb l), ib bA 73 (mS row fa l)])
      case atStart => exact ⟨0, by omega, by omega, rfl, by rw [sta.out, stb.out]; exact hI⟩
      case round =>
        clear hI
        obtain ⟨l, rfl, hl, rfl, hI⟩ := hrel
        have hka := Lib.hid (hbka.out l hl)
        have hkb := Lib.hid (hbkb.out l hl)
        have hmla := hka.out.len
        have hmlb := hkb.out.len
        by_cases hll : l < j
        · obtain ⟨q, hq⟩ : ∃ q, (l + t) % j = q := ⟨_, rfl⟩
          have hqj : q < j := by rw [← hq]; exact turn_lt hpos
          have hqi : ((l : Int) + (t : Int)) % (j : Int) = (q : Int) := by rw [← hq, Int.natCast_emod, Int.natCast_add]
          obtain ⟨hxla, _, bq, off, rfl, hcella⟩ := h.row l hll
          obtain ⟨hxlb, _, bq2, off2, hab, hcellb⟩ := h.row q hqj
          obtain ⟨rfl, rfl⟩ : bq = bq2 ∧ off = off2 := by cases hab; exact ⟨rfl, rfl⟩
          have sa : Hid (mS row fa (l + 1) = mergeM (mS row fa l) 2 (row l)) := Lib.hid (by rw [hfa]; rfl)
          have sb : Hid (mS row fb (l + 1) = mergeM (mS row fb l) 2 (row q)) := Lib.hid (by rw [mS, hfb]; simp only [hq])
          have hl3 : ((row l).map (Value.int .i64)).length = 174 := by simpa using hxla
          have hl4 : ((row q).map (Value.int .i64)).length = 174 := by simpa using hxlb
          have hagga : AggT Try.prog 28 ((row l).map (Value.int .i64)).length := by rw [hl3]; exact agg28
          have haggb : AggT Try.prog 28 ((row q).map (Value.int .i64)).length := by rw [hl4]; exact agg28
          clear h hbka hbkb hab hq hfa hfb sta stb hnone hsame hrow
          generalize mS row fa l = mA at *
          generalize mS row fb l = mB at *
          obtain ⟨xa, hxa⟩ : ∃ xa, row l = xa := ⟨_, rfl⟩
          obtain ⟨xb, hxb⟩ : ∃ xb, row q = xb := ⟨_, rfl⟩
          rw [hxa] at hxla hcella hl3 hagga sa
          rw [hxb] at hxlb hcellb hl4 haggb sb
          clear hxa hxb
          obtain ⟨mA2, hma⟩ : ∃ y, Hid (mergeM mA 2 xa = y) := ⟨_, Lib.hid rfl⟩
          obtain ⟨mB2, hmb⟩ : ∃ y, Hid (mergeM mB 2 xb = y) := ⟨_, Lib.hid rfl⟩
          have htl2 : (t : Int) < (j : Int) := by omega
          go_upto_region 19 with (first | (with_reducible refine wpList_load_iarg hI (by with_unfolding_all rfl) hcella (by simp) (by with_unfolding_all exact hagga) ?_) | (go_at_call 37; (with_reducible refine (merge_any _ bA 73 mA hka.out (hI.ibk (by (first | with_reducible exact mm0 | with_reducible exact mm1 | with_reducible exact mm2 | with_reducible exact mm3 | with_reducible exact mm4 | with_reducible exact mm5 | with_reducible exact mm6 | with_reducible exact mm7 | with_reducible exact mm8 | with_reducible exact mm9))) 2 xa hxla).mono ?_); rw [hma.out]; rintro e w1 ⟨rfl, hst, hbk⟩; replace hI := hI.icall (by (first | with_reducible exact uu0 | with_reducible exact uu1 | with_reducible exact uu2 | with_reducible exact uu3 | with_reducible exact uu4 | with_reducible exact uu5 | with_reducible exact uu6 | with_reducible exact uu7 | with_reducible exact uu8 | with_reducible exact uu9)) hst hbk; clear hst hbk))
          (try simp only [Act.put, List.setIfInBounds_toArray, List.set_cons_succ, List.set_cons_zero])
          clear hcella hagga hl3
          go_wp2_with (first | (with_reducible refine wpList_load_iarg hI (by with_unfolding_all rfl) hcellb (by simp) (by with_unfolding_all exact haggb) ?_) | (go_at_call 37; (with_reducible refine (merge_any _ bB 73 mB hkb.out (hI.ibk (by (first | with_reducible exact mm0 | with_reducible exact mm1 | with_reducible exact mm2 | with_reducible exact mm3 | with_reducible exact mm4 | with_reducible exact mm5 | with_reducible exact mm6 | with_reducible exact mm7 | with_reducible exact mm8 | with_reducible exact mm9))) 2 xb hxlb).mono ?_); rw [hmb.out]; rintro e w1 ⟨rfl, hst, hbk⟩; replace hI := hI.icall (by (first | with_reducible exact uu0 | with_reducible exact uu1 | with_reducible exact uu2 | with_reducible exact uu3 | with_reducible exact uu4 | with_reducible exact uu5 | with_reducible exact uu6 | with_reducible exact uu7 | with_reducible exact uu8 | with_reducible exact uu9)) hst hbk; clear hst hbk))
          go_roundg (j - (l + 1))
          case measure => omega
          case rel => exact ⟨l + 1, by omega, by omega, by go_num, by rw [sa.out, sb.out, hma.out, hmb.out]; exact hI⟩
        · obtain rfl : l = j := by omega
          have hno2 := Lib.hid hnone.out
          obtain ⟨X, hX⟩ : ∃ X, sub (mS row fa l) 348 174 = X := ⟨_, rfl⟩
          have hra : Hid (rowOf (mS row fa l) 2 = X) := Lib.hid (by rw [← hX]; rfl)
          have hrb : Hid (rowOf (mS row fb l) 2 = X) := Lib.hid (by rw [← hX, hsame.out]; rfl)
          have hXl : X.length = 174 := by rw [← hX, sub_len]; omega
          clear hnone hsame hX hfa hfb hbka hbkb sta stb hrow
          generalize mS row fa l = mA at *
          generalize mS row fb l = mB at *
          go_upto_region 23 with (first | (go_at_call 38; (with_reducible refine (brow_any _ bA 73 mA hka.out (hI.ibk (by (first | with_reducible exact mm0 | with_reducible exact mm1 | with_reducible exact mm2 | with_reducible exact mm3 | with_reducible exact mm4 | with_reducible exact mm5 | with_reducible exact mm6 | with_reducible exact mm7 | with_reducible exact mm8 | with_reducible exact mm9))) 2).mono ?_); rw [hra.out]; rintro e w1 ⟨rfl, hst, hbk⟩; replace hI := hI.icall (by (first | with_reducible exact uu0 | with_reducible exact uu1 | with_reducible exact uu2 | with_reducible exact uu3 | with_reducible exact uu4 | with_reducible exact uu5 | with_reducible exact uu6 | with_reducible exact uu7 | with_reducible exact uu8 | with_reducible exact uu9)) hst hbk; clear hst hbk) | (go_at_call 38; (with_reducible refine (brow_any _ bB 73 mB hkb.out (hI.ibk (by (first | with_reducible exact mm0 | with_reducible exact mm1 | with_reducible exact mm2 | with_reducible exact mm3 | with_reducible exact mm4 | with_reducible exact mm5 | with_reducible exact mm6 | with_reducible exact mm7 | with_reducible exact mm8 | with_reducible exact mm9))) 2).mono ?_); rw [hrb.out]; rintro e w1 ⟨rfl, hst, hbk⟩; replace hI := hI.icall (by (first | with_reducible exact uu0 | with_reducible exact uu1 | with_reducible exact uu2 | with_reducible exact uu3 | with_reducible exact uu4 | with_reducible exact uu5 | with_reducible exact uu6 | with_reducible exact uu7 | with_reducible exact uu8 | with_reducible exact uu9)) hst hbk; clear hst hbk) | ((with_reducible refine wpList_ne_same  (by with_unfolding_all rfl) (by with_unfolding_all rfl) (by first | with_reducible exact agg22 | with_reducible exact agg24 | with_reducible exact agg25 | with_reducible exact agg26 | with_reducible exact agg28 | with_reducible exact agg73) (by first | with_reducible exact flatT22 | with_reducible exact flatT24 | with_reducible exact flatT25 | with_reducible exact flatT26 | with_reducible exact flatT28) (by (repeat (first | rw [List.length_set] | rw [nau_len] | rw [sub_len] | rw [spl_len])) <;> omega) ?_)))
          (try simp only [Act.put, List.setIfInBounds_toArray, List.set_cons_succ, List.set_cons_zero])
          go_wp2_with fail
          go_loopg [12, 69] l (fun kk s12 i wr => ∃ q : Nat, kk = l - q ∧ q ≤ l ∧ i = .int .i64 q ∧ Inv [] w0 wr [ib bB 73 mB, ib bA 73 mA])
          case atStart => exact ⟨0, by omega, by omega, rfl, hI⟩
          case round =>
            clear hI
            obtain ⟨q, rfl, hq, rfl, hI⟩ := hrel
            by_cases hql : q < l
            · obtain ⟨hxla, _, bq, off, rfl, hcella⟩ := h.row q hql
              have hno := Lib.hid (hno2.out q hql)
              obtain ⟨xa, hxa⟩ : ∃ xa, row q = xa := ⟨_, rfl⟩
              rw [hxa] at hxla hcella hno
              have hl3 : (xa.map (Value.int .i64)).length = 174 := by simpa using hxla
              have hagga : AggT Try.prog 28 (xa.map (Value.int .i64)).length := by rw [hl3]; exact agg28
              have hma : Hid (mergeM mA 2 xa = mA) := Lib.hid (by unfold mergeM; rw [if_neg (by rw [hno.out]; decide)])
              clear h hno2 hxa hra hrb
              go_wp2_with (first | (with_reducible refine wpList_load_iarg hI (by with_unfolding_all rfl) hcella (by simp) (by with_unfolding_all exact hagga) ?_) | ((with_reducible refine wpList_alloc_ia hI (by first | with_reducible exact zi22 | with_reducible exact zi24 | with_reducible exact zi25 | with_reducible exact zi26 | with_reducible exact zi28 | with_reducible exact zi73) ?_); clear hI; intro bx w hI) | ((with_reducible refine wpList_store_iw hI (by with_unfolding_all rfl) (by with_unfolding_all rfl) (by first | with_reducible exact uu0 | with_reducible exact uu1 | with_reducible exact uu2 | with_reducible exact uu3 | with_reducible exact uu4 | with_reducible exact uu5 | with_reducible exact uu6 | with_reducible exact uu7 | with_reducible exact uu8 | with_reducible exact uu9) (by first | with_reducible exact agg22 | with_reducible exact agg24 | with_reducible exact agg25 | with_reducible exact agg26 | with_reducible exact agg28 | with_reducible exact agg73) (by (repeat (first | rw [List.length_set] | rw [nau_len] | rw [sub_len] | rw [spl_len])) <;> omega) (by (repeat (first | rw [List.length_set] | rw [nau_len] | rw [sub_len] | rw [spl_len])) <;> omega) ?_); clear hI; intro w hI) | ((with_reducible refine wpList_load_iw hI (by with_unfolding_all rfl) (by first | with_reducible exact mm0 | with_reducible exact mm1 | with_reducible exact mm2 | with_reducible exact mm3 | with_reducible exact mm4 | with_reducible exact mm5 | with_reducible exact mm6 | with_reducible exact mm7 | with_reducible exact mm8 | with_reducible exact mm9) (by first | with_reducible exact agg22 | with_reducible exact agg24 | with_reducible exact agg25 | with_reducible exact agg26 | with_reducible exact agg28 | with_reducible exact agg73) (by (repeat (first | rw [List.length_set] | rw [nau_len] | rw [sub_len] | rw [spl_len])) <;> omega) ?_)) | (go_at_call 37; (with_reducible refine (merge_any _ bA 73 mA hka.out (hI.ibk (by (first | with_reducible exact mm0 | with_reducible exact mm1 | with_reducible exact mm2 | with_reducible exact mm3 | with_reducible exact mm4 | with_reducible exact mm5 | with_reducible exact mm6 | with_reducible exact mm7 | with_reducible exact mm8 | with_reducible exact mm9))) 2 xa hxla).mono ?_); rw [hno.out, hma.out]; rintro e w1 ⟨rfl, hst, hbk⟩; replace hI := hI.icall (by (first | with_reducible exact uu0 | with_reducible exact uu1 | with_reducible exact uu2 | with_reducible exact uu3 | with_reducible exact uu4 | with_reducible exact uu5 | with_reducible exact uu6 | with_reducible exact uu7 | with_reducible exact uu8 | with_reducible exact uu9)) hst hbk; clear hst hbk))
              go_roundg (l - (q + 1))
              case measure => omega
              case rel => exact ⟨q + 1, by omega, by omega, by go_num, hI.sub (.cons _ (.refl _))⟩
            · obtain rfl : q = l := by omega
              clear h hno2
              go_wp2_with (first | (go_at_call 38; (with_reducible refine (brow_any _ bA 73 mA hka.out (hI.ibk (by (first | with_reducible exact mm0 | with_reducible exact mm1 | with_reducible exact mm2 | with_reducible exact mm3 | with_reducible exact mm4 | with_reducible exact mm5 | with_reducible exact mm6 | with_reducible exact mm7 | with_reducible exact mm8 | with_reducible exact mm9))) 2).mono ?_); rw [hra.out]; rintro e w1 ⟨rfl, hst, hbk⟩; replace hI := hI.icall (by (first | with_reducible exact uu0 | with_reducible exact uu1 | with_reducible exact uu2 | with_reducible exact uu3 | with_reducible exact uu4 | with_reducible exact uu5 | with_reducible exact uu6 | with_reducible exact uu7 | with_reducible exact uu8 | with_reducible exact uu9)) hst hbk; clear hst hbk) | (go_at_call 38; (with_reducible refine (brow_any _ bB 73 mB hkb.out (hI.ibk (by (first | with_reducible exact mm0 | with_reducible exact mm1 | with_reducible exact mm2 | with_reducible exact mm3 | with_reducible exact mm4 | with_reducible exact mm5 | with_reducible exact mm6 | with_reducible exact mm7 | with_reducible exact mm8 | with_reducible exact mm9))) 2).mono ?_); rw [hrb.out]; rintro e w1 ⟨rfl, hst, hbk⟩; replace hI := hI.icall (by (first | with_reducible exact uu0 | with_reducible exact uu1 | with_reducible exact uu2 | with_reducible exact uu3 | with_reducible exact uu4 | with_reducible exact uu5 | with_reducible exact uu6 | with_reducible exact uu7 | with_reducible exact uu8 | with_reducible exact uu9)) hst hbk; clear hst hbk) | ((with_reducible refine wpList_eq_same  (by with_unfolding_all rfl) (by with_unfolding_all rfl) (by first | with_reducible exact agg22 | with_reducible exact agg24 | with_reducible exact agg25 | with_reducible exact agg26 | with_reducible exact agg28 | with_reducible exact agg73) (by first | with_reducible exact flatT22 | with_reducible exact flatT24 | with_reducible exact flatT25 | with_reducible exact flatT26 | with_reducible exact flatT28) (by (repeat (first | rw [List.length_set] | rw [nau_len] | rw [sub_len] | rw [spl_len])) <;> omega) ?_)))
              go_ret
              exact ⟨rfl, hI.below⟩
theorem latest_cells (w0 : World) (a : Option Addr) (len c : Nat) (row : Nat → List Value) (turn : Int) (h : SlArg w0 a len c (List.replicate 174 pInt) row) :
    Calls Try.prog 15 #[.slice a len c, .int .i64 turn] w0 fun e w' => e = .returned (.bool true) ∧ Below w0.heap.size w0 w' := by
  obtain ⟨r, hr⟩ := h.ints
  exact latest_walk w0 a len c r hr turn
end Go.Proofs.Ythncfjfgjdeajaa
