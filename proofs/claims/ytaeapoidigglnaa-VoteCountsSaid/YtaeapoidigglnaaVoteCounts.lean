/-
  The law VoteCounts. No condition.
-/
import Derived.Test.YtaeapoidigglnaaVoteFit
import Derived.Test.YtaeapoidigglnaaVoteS
import Derived.Test.YtaeapoidigglnaaViewShapes
import Derived.Test.YtaeapoidigglnaaBits
namespace Go.Proofs.Ytaeapoidigglnaa
open Go.RowKit
set_option maxRecDepth 100000
theorem and_rng (x : Int) (M : Nat) (h : M < 9223372036854775808) : 0 ≤ bits .and .i64 x M ∧ bits .and .i64 x M ≤ M := by
  have hM : (BitVec.ofInt 64 (M : Int)).toNat = M := by rw [BitVec.toNat_ofInt]; omega
  have key : (BitVec.ofInt 64 x &&& BitVec.ofInt 64 (M : Int)).toNat ≤ M := by
    rw [BitVec.toNat_and, hM]
    exact Nat.and_le_right
  have e : bits .and .i64 x M = IntKind.i64.wrap (((BitVec.ofInt 64 x &&& BitVec.ofInt 64 (M : Int)).toNat : Nat) : Int) := rfl
  rw [e]
  generalize (BitVec.ofInt 64 x &&& BitVec.ofInt 64 (M : Int)).toNat = r at *
  simp [IntKind.wrap, IntKind.bits, IntKind.signed]
  omega
theorem zi57 : ZeroI Try.prog 57 3 := by unfold ZeroI; kernel_rfl
theorem ci3 : CRI Try.prog 3 1 := CRI.int (by kernel_rfl) (by kernel_rfl)
theorem ci57 : CRI Try.prog 57 3 := CRI.array arr57.und ci3 (by kernel_rfl)
theorem cr50 : CR Try.prog 50 [pSlice (List.replicate 3 pInt)] := CR.slice (by_ := 24) Try.underlying50 ci57 (by kernel_rfl) (by decide) (by kernel_rfl) (by decide)
section
variable {P : Program} {ops : Array Oper} {Q : Exit → Act → World → Prop} {a : Act} {rest : List Oper} {T : List Nat} {w0 w : World} {m : List Res} {dst : Option Tmp} {ty : TypeId} {pos : String} {af : Array Edge}
theorem wpList_load_iarg {x : Operand} {t b off : Nat} {zs : List Int} (hI : Inv T w0 w m) (hx : a.eval x = .pointer (some ⟨b, off, none⟩)) (hc : CellsAt w0 b off (zs.map (Value.int .i64))) (hb : b ∉ T) (hT : AggT P t (zs.map (Value.int .i64)).length)
    (k : wpList P ops Q rest (a.put dst (ia zs)) w) : wpList P ops Q (⟨dst, .load t x, ty, pos, af, none⟩ :: rest) a w := wpList_load_arg hI hx hc hb hT k
theorem build273 (p q r : Int) (w : World) : (Instr.build 27 #[(0, .int .i64 p), (1, .int .i64 q), (2, .int .i64 r)]).run Try.prog w = .ok (ia [p, q, r]) w := by
  have hz2 : (Try.prog.info? 27).map (·.zero) = some (some (ia (nau 3))) := zi27
  obtain ⟨inf, hinf, hz'⟩ := Option.map_eq_some_iff.1 hz2
  have hzv : (zeroValue 27).run Try.prog w = .ok (ia (nau 3)) w := by simp [zeroValue, typeInfo, hinf, hz']
  have hr := run_mapM_places (P := Try.prog) (Try.prog.fieldsOf 27).toList (List.all_eq_true.1 kp27) w
  rw [pl27] at hr
  simp only [Instr.build, Sem.run_bind, hzv, Result.andThen_ok, run_underlying und27]
  rw [← Array.toArray_toList (xs := Try.prog.fieldsOf 27), List.mapM_toArray]
  simp only [Sem.run_map, hr]
  simp [Instr.fill, ia, nau, List.replicate, Value.cells]
theorem wpList_build273 {x y z : Operand} {p q r : Int} (hx : a.eval x = .int .i64 p) (hy : a.eval y = .int .i64 q) (hz : a.eval z = .int .i64 r)
    (k : wpList Try.prog ops Q rest (a.put dst (ia [p, q, r])) w) : wpList Try.prog ops Q (⟨dst, .build 27 #[(0, x), (1, y), (2, z)], ty, pos, af, none⟩ :: rest) a w := by
  refine wpList_yld ?_ k
  unfold Yld execOp
  simp only [List.map_toArray, List.map_cons, List.map_nil, hx, hy, hz, Sem.run_bind, build273, Result.andThen_ok]
  rfl
end
theorem set_four : ([3, 1] : List Int).set 0 (wrap64 (gi [3, 1] 0 + 1)) = tryB false := by decide +kernel
theorem nm3v {T : List Nat} {w0 w : World} {a b c : Nat} {e1 e2 e3 : TypeId} {z1 z2 z3 : List Int} {m : List Res} (_ : Inv T w0 w (ib a e1 z1 :: ib b e2 z2 :: ib c e3 z3 :: m)) : ∃ a' b' c', a' = a ∧ b' = b ∧ c' = c := ⟨a, b, c, rfl, rfl, rfl⟩
theorem nm6 {T : List Nat} {w0 w : World} {a b c d f g : Nat} {e1 e2 e3 e4 e5 e6 : TypeId} {z1 z2 z3 z4 z5 z6 : List Int} {bs : List Bool} (_ : Inv T w0 w [ib a e1 z1, ib b e2 z2, ibb c e3 z3 bs, ib d e4 z4, ib f e5 z5, ib g e6 z6]) : ∃ a' b' c' d' f' g', a' = a ∧ b' = b ∧ c' = c ∧ d' = d ∧ f' = f ∧ g' = g := ⟨a, b, c, d, f, g, rfl, rfl, rfl, rfl, rfl, rfl⟩
set_option maxHeartbeats 6400000 in
theorem vcounts_walk (w0 : World) (ch : List Int) (hch : ch.length = 3) (a : Option Addr) (len c : Nat) (row : Nat → List Int) (h : IArg w0 a len 3 row) :
    Calls Try.prog 11 #[ia ch, .slice a len c] w0 fun e w' => e = .returned (.bool true) ∧ Below w0.heap.size w0 w' := by
  have hI := Inv.start w0
  have l0 := h.reach
  have hfl : firstV.length = 7 := rfl
  have h31 : ([3, 1] : List Int).length = 2 := rfl
  have h00 : ([0, 0] : List Int).length = 2 := rfl
  by_cases hbig : len > 60
  · have hb : (60 : Int) < (len : Int) := by omega
    clear h
    go_enter Try.func11, Try.ntmps11
    go_wp2_with (first | ((with_reducible refine wpList_on  (by with_unfolding_all rfl) ?_)) | ((with_reducible refine wpList_box_ia hI (by with_unfolding_all rfl) ?_); clear hI; intro bx w hI) | (go_at_call 28; refine (fit13 _).mono ?_; rintro e w1 ⟨rfl, hw1⟩; replace hI := hI.call hw1; clear hw1))
    go_ret
    exact ⟨rfl, hI.below⟩
  have hb : (len : Int) ≤ 60 := by omega
  go_enter Try.func11, Try.ntmps11
  go_upto_region 12 with (first | ((with_reducible refine wpList_on  (by with_unfolding_all rfl) ?_)) | (go_at_call 28; refine (fit13 _).mono ?_; rintro e w1 ⟨rfl, hw1⟩; replace hI := hI.call hw1; clear hw1) | (go_at_call 29; refine (first_any _).mono ?_; rintro e w1 ⟨rfl, hw1⟩; replace hI := hI.call hw1; clear hw1) | (go_at_call 30; (with_reducible refine (new_any _ firstV [3, 1] ch hfl h31 hch).mono ?_); rintro e w1 ⟨p, rfl, hJ⟩; replace hI := hI.seq hJ; simp only [List.cons_append, List.nil_append] at hI; clear hJ) | ((with_reducible refine wpList_box_ia hI (by with_unfolding_all rfl) ?_); clear hI; intro bx w hI) | ((with_reducible refine wpList_alloc_ia hI (by first | with_reducible exact zi53 | with_reducible exact zi51 | with_reducible exact zi27 | with_reducible exact zi25 | with_reducible exact zi57) ?_); clear hI; intro bx w hI) | ((with_reducible refine wpList_store_iw hI (by with_unfolding_all rfl) (by with_unfolding_all rfl) (by first | with_reducible exact uu0 | with_reducible exact uu1 | with_reducible exact uu2 | with_reducible exact uu3 | with_reducible exact uu4 | with_reducible exact uu5 | with_reducible exact uu6 | with_reducible exact uu7 | with_reducible exact uu8 | with_reducible exact uu9) (by first | with_reducible exact agg53 | with_reducible exact agg51 | with_reducible exact agg27 | with_reducible exact agg25 | with_reducible exact agg57) (by (repeat (first | rw [List.length_set] | rw [nau_len] | rw [sub_len] | rw [spl_len])) <;> omega) (by (repeat (first | rw [List.length_set] | rw [nau_len] | rw [sub_len] | rw [spl_len])) <;> omega) ?_); clear hI; intro w hI) | ((with_reducible refine wpList_load_iw hI (by with_unfolding_all rfl) (by first | with_reducible exact mm0 | with_reducible exact mm1 | with_reducible exact mm2 | with_reducible exact mm3 | with_reducible exact mm4 | with_reducible exact mm5 | with_reducible exact mm6 | with_reducible exact mm7 | with_reducible exact mm8 | with_reducible exact mm9) (by first | with_reducible exact agg53 | with_reducible exact agg51 | with_reducible exact agg27 | with_reducible exact agg25 | with_reducible exact agg57) (by (repeat (first | rw [List.length_set] | rw [nau_len] | rw [sub_len] | rw [spl_len])) <;> omega) ?_)) | (with_reducible refine wpList_build25 (by with_unfolding_all rfl) (by with_unfolding_all rfl) ?_) | (with_reducible refine wpList_build0_as (zs := [0, 0]) zi25 kn25 (by with_unfolding_all rfl) ?_))
  (try simp only [Act.put, List.setIfInBounds_toArray, List.set_cons_succ, List.set_cons_zero])
  obtain ⟨b11, b10, p, b6, b5, b2, e1, e2, e3, e4, e5, e6⟩ := nm6 hI
  subst e1 e2 e3 e4 e5 e6
  clear hb
  have hst0 : Hid (newZ firstV [3, 1] ch = stZ ch [0, 0] 0 0) := Lib.hid (by
    match ch, hch with
    | [a0, a1, a2], _ => rfl)
  rw [hst0.out] at hI
  go_wp2_with fail
  go_loopg [8, 9, 12, 14, 15, 16, 17, 18, 19, 20, 21, 22, 38] len (fun kk s8 s9 s12 s14 s15 s16 s17 s18 s19 s20 s21 s22 i wr => ∃ (j : Nat) (ww h : List Int) (V K : Int) (P : Bool), kk = len - j ∧ j ≤ len ∧ i = .int .i64 j ∧ s8 = .int .i64 V ∧ s9 = .int .i64 K ∧ s12 = .bool P ∧
    Hid (ww.length = 3 ∧ h.length = 2 ∧ 0 ≤ V ∧ V ≤ 7 ∧ 0 ≤ K ∧ K ≤ 7) ∧ Inv [] w0 wr [ib b11 25 h, ib b10 27 ww, ibb p 92 (stZ ww h V K) [P], ib b6 25 [3, 1], ib b5 53 firstV, ib b2 27 ch])
  case atStart => exact ⟨0, ch, [0, 0], 0, 0, false, by omega, by omega, rfl, rfl, rfl, rfl, Lib.hid ⟨hch, rfl, by omega, by omega, by omega, by omega⟩, hI⟩
  case round =>
    clear hI hst0
    obtain ⟨j, ww, h', V, K, P, rfl, hj, rfl, rfl, rfl, rfl, hG, hI⟩ := hrel
    obtain ⟨g1, g2, g3, g4, g5, g6⟩ := hG.out
    by_cases hlj : j < len
    · obtain ⟨hxl, hxr, bq, off, rfl, hcell⟩ := h.row j hlj
      have hl3 : ((row j).map (Value.int .i64)).length = 3 := by simpa using hxl
      have hagg : AggT Try.prog 57 ((row j).map (Value.int .i64)).length := by rw [hl3]; exact agg57
      clear h hxr
      generalize row j = x at *
      go_upto_region 15 with (first | (with_reducible refine wpList_load_iarg hI (by with_unfolding_all rfl) hcell (by simp) (by with_unfolding_all exact hagg) ?_) | ((with_reducible refine wpList_alloc_ia hI (by first | with_reducible exact zi53 | with_reducible exact zi51 | with_reducible exact zi27 | with_reducible exact zi25 | with_reducible exact zi57) ?_); clear hI; intro bx w hI) | ((with_reducible refine wpList_store_iw hI (by with_unfolding_all rfl) (by with_unfolding_all rfl) (by first | with_reducible exact uu0 | with_reducible exact uu1 | with_reducible exact uu2 | with_reducible exact uu3 | with_reducible exact uu4 | with_reducible exact uu5 | with_reducible exact uu6 | with_reducible exact uu7 | with_reducible exact uu8 | with_reducible exact uu9) (by first | with_reducible exact agg53 | with_reducible exact agg51 | with_reducible exact agg27 | with_reducible exact agg25 | with_reducible exact agg57) (by (repeat (first | rw [List.length_set] | rw [nau_len] | rw [sub_len] | rw [spl_len])) <;> omega) (by (repeat (first | rw [List.length_set] | rw [nau_len] | rw [sub_len] | rw [spl_len])) <;> omega) ?_); clear hI; intro w hI))
      (try simp only [Act.put, List.setIfInBounds_toArray, List.set_cons_succ, List.set_cons_zero])
      (obtain ⟨b14, hbx⟩ : ∃ b, b = bx := ⟨_, rfl⟩; subst hbx)
      clear hcell hagg hl3
      go_upto_region 16 with (first | ((with_reducible refine wpList_load_i1 hI (by with_unfolding_all rfl) (by first | with_reducible exact mm0 | with_reducible exact mm1 | with_reducible exact mm2 | with_reducible exact mm3 | with_reducible exact mm4 | with_reducible exact mm5 | with_reducible exact mm6 | with_reducible exact mm7 | with_reducible exact mm8 | with_reducible exact mm9) (by first | with_reducible exact one3 | with_reducible exact one4 | with_reducible exact one40) (by (repeat (first | rw [List.length_set] | rw [nau_len] | rw [sub_len] | rw [spl_len])) <;> omega) ?_)))
      obtain ⟨who, hw8, hwe⟩ : ∃ k : Nat, k < 8 ∧ bits BinOp.and IntKind.i64 (gi x 0) 7 = (k : Int) := by
        obtain ⟨h0, h1⟩ := and_rng (gi x 0) 7 (by decide)
        rw [show bits BinOp.and IntKind.i64 (gi x 0) ((7 : Nat) : Int) = bits BinOp.and IntKind.i64 (gi x 0) 7 from rfl] at h0 h1
        exact ⟨(bits BinOp.and IntKind.i64 (gi x 0) 7).toNat, by omega, by omega⟩
      rw [hwe]
      clear hwe
      (try simp only [Act.put, List.setIfInBounds_toArray, List.set_cons_succ, List.set_cons_zero])
      obtain ⟨h0, hh0⟩ : ∃ h0, bits BinOp.and IntKind.i64 (gi x 1) 3 = h0 := ⟨_, rfl⟩
      obtain ⟨h1, hh1⟩ : ∃ h1, bits BinOp.and IntKind.i64 (gi x 1 / 4) 3 = h1 := ⟨_, rfl⟩
      obtain ⟨d1, hd1⟩ : ∃ d1, bits BinOp.and IntKind.i64 (gi x 1) 1 = d1 := ⟨_, rfl⟩
      obtain ⟨o, ho⟩ : ∃ o, (bits BinOp.and IntKind.i64 (gi x 2) 8 == 0) = o := ⟨_, rfl⟩
      have l2 : ([h0, h1] : List Int).length = 2 := rfl
      have l3 : ([1, d1, 2] : List Int).length = 3 := rfl
      go_upto_region 20 with (first | ((with_reducible refine wpList_load_i1 hI (by with_unfolding_all rfl) (by first | with_reducible exact mm0 | with_reducible exact mm1 | with_reducible exact mm2 | with_reducible exact mm3 | with_reducible exact mm4 | with_reducible exact mm5 | with_reducible exact mm6 | with_reducible exact mm7 | with_reducible exact mm8 | with_reducible exact mm9) (by first | with_reducible exact one3 | with_reducible exact one4 | with_reducible exact one40) (by (repeat (first | rw [List.length_set] | rw [nau_len] | rw [sub_len] | rw [spl_len])) <;> omega) ?_)) | ((with_reducible refine wpList_load_iw hI (by with_unfolding_all rfl) (by first | with_reducible exact mm0 | with_reducible exact mm1 | with_reducible exact mm2 | with_reducible exact mm3 | with_reducible exact mm4 | with_reducible exact mm5 | with_reducible exact mm6 | with_reducible exact mm7 | with_reducible exact mm8 | with_reducible exact mm9) (by first | with_reducible exact agg53 | with_reducible exact agg51 | with_reducible exact agg27 | with_reducible exact agg25 | with_reducible exact agg57) (by (repeat (first | rw [List.length_set] | rw [nau_len] | rw [sub_len] | rw [spl_len])) <;> omega) ?_)) | ((with_reducible refine wpList_alloc_ia hI (by first | with_reducible exact zi53 | with_reducible exact zi51 | with_reducible exact zi27 | with_reducible exact zi25 | with_reducible exact zi57) ?_); clear hI; intro bx w hI) | ((with_reducible refine wpList_store_iw hI (by with_unfolding_all rfl) (by with_unfolding_all rfl) (by first | with_reducible exact uu0 | with_reducible exact uu1 | with_reducible exact uu2 | with_reducible exact uu3 | with_reducible exact uu4 | with_reducible exact uu5 | with_reducible exact uu6 | with_reducible exact uu7 | with_reducible exact uu8 | with_reducible exact uu9) (by first | with_reducible exact agg53 | with_reducible exact agg51 | with_reducible exact agg27 | with_reducible exact agg25 | with_reducible exact agg57) (by (repeat (first | rw [List.length_set] | rw [nau_len] | rw [sub_len] | rw [spl_len])) <;> omega) (by (repeat (first | rw [List.length_set] | rw [nau_len] | rw [sub_len] | rw [spl_len])) <;> omega) ?_); clear hI; intro w hI) | (with_reducible refine wpList_build25 (by with_unfolding_all rfl) (by with_unfolding_all rfl) ?_) | (with_reducible refine wpList_build273 (by with_unfolding_all rfl) (by with_unfolding_all rfl) (by with_unfolding_all rfl) ?_))
      (try simp only [Act.put, List.setIfInBounds_toArray, List.set_cons_succ, List.set_cons_zero])
      obtain ⟨b19, b17, b16, q1, q2, q3⟩ := nm3v hI
      subst q1 q2 q3
      clear hh0 hh1 hd1 ho
      go_upto_if 63 with fail
      (try simp only [Act.put, List.setIfInBounds_toArray, List.set_cons_succ, List.set_cons_zero])
      go_cut [] (fun wx => Inv [] w0 wx [ib b19 25 (tryB o), ib b17 27 [1, d1, 2], ib b16 25 [h0, h1], ib b14 57 x, ib b11 25 h', ib b10 27 ww, ibb p 92 (stZ ww h' V K) [P], ib b6 25 [3, 1], ib b5 53 firstV, ib b2 27 ch])
      case first =>
        cases o
        · go_wp2_with (first | ((with_reducible refine wpList_load_i1 hI (by with_unfolding_all rfl) (by first | with_reducible exact mm0 | with_reducible exact mm1 | with_reducible exact mm2 | with_reducible exact mm3 | with_reducible exact mm4 | with_reducible exact mm5 | with_reducible exact mm6 | with_reducible exact mm7 | with_reducible exact mm8 | with_reducible exact mm9) (by first | with_reducible exact one3 | with_reducible exact one4 | with_reducible exact one40) (by (repeat (first | rw [List.length_set] | rw [nau_len] | rw [sub_len] | rw [spl_len])) <;> omega) ?_)) | ((with_reducible refine wpList_store_i1 hI (by with_unfolding_all rfl) (by with_unfolding_all rfl) (by first | with_reducible exact uu0 | with_reducible exact uu1 | with_reducible exact uu2 | with_reducible exact uu3 | with_reducible exact uu4 | with_reducible exact uu5 | with_reducible exact uu6 | with_reducible exact uu7 | with_reducible exact uu8 | with_reducible exact uu9) (by first | with_reducible exact one3 | with_reducible exact one4 | with_reducible exact one40) (by (repeat (first | rw [List.length_set] | rw [nau_len] | rw [sub_len] | rw [spl_len])) <;> omega) ?_); clear hI; intro w hI))
          go_meet
          case rel =>
            rw [set_four] at hI
            exact hI
        · go_wp2_with fail
          go_meet
          case rel => exact hI
      case rest =>
        clear hI
        have hI := hcut
        clear hcut
        go_upto_region 22 with fail
        go_cut [20] (fun u wx => u = .bool (decide (who < 3)) ∧ Inv [] w0 wx [ib b19 25 (tryB o), ib b17 27 [1, d1, 2], ib b16 25 [h0, h1], ib b14 57 x, ib b11 25 h', ib b10 27 ww, ibb p 92 (stZ ww h' V K) [P], ib b6 25 [3, 1], ib b5 53 firstV, ib b2 27 ch])
        case first =>
          by_cases hwho : who < 3
          · have e : decide (who < 3) = true := by simpa using hwho
            have e2 : decide ((who : Int) < 3) = true := by simp; omega
            clear hwho
            go_wp2_with fail
            go_meet
            case rel => exact ⟨by rw [e], hI⟩
          · have e : decide (who < 3) = false := by simpa using hwho
            have e2 : decide ((who : Int) < 3) = false := by simp; omega
            clear hwho
            go_wp2_with fail
            go_meet
            case rel => exact ⟨by rw [e], hI⟩
        case rest =>
          rename_i hK
          clear hI
          obtain ⟨rfl, hI⟩ := hcut
          refine hK _ _ ?_
          refine vs_walk (by rfl) hxl l2 l3 g1 g2 g3 g4 g5 g6 ?_ hI
          clear hI hK
          intro V' K' P' w2 h2 wx u4 u21 u22 u70 u71 u72 u73 u74 u75 u76 u77 u78 u79 u80 u81 u82 u83 u84 u85 u86 u87 u88 u89 u90 u91 u92 u93 u94 u95 u96 u97 u98 u99 u100 u101 u102 u103 u104 u105 u106 u107 u108 u109 u110 u111 u112 u113 u114 u115 u116 u117 u118 u119 u120 u121 u122 u123 u124 u125 u126 u127 u128 u129 u130 u131 u132 u133 u134 u135 u136 u137 u138 u139 u140 u141 u142 u143 u144 u145 u146 u147 u148 u149 u150 u151 u152 u153 u154 u155 u156 u157 u158 u159 u160 u161 u162 u163 u164 u165 u166 u167 u168 u169 u170 u171 u172 u173 u174 u175 u176 u177 u178 u179 u180 u181 hG hI
          go_wp2_with fail
          go_roundg (len - (j + 1))
          case measure => omega
          case rel => exact ⟨j + 1, w2, h2, V', K', P', by omega, by omega, by go_num, rfl, rfl, rfl, hG, hI.sub (.cons _ (.cons _ (.cons _ (.cons _ (.refl _)))))⟩
    · obtain rfl : j = len := by omega
      clear h hG
      go_wp2_with fail
      go_ret
      exact ⟨rfl, hI.below⟩
theorem vcounts_cells (w0 : World) (ch : List Int) (hch : ch.length = 3) (a : Option Addr) (len c : Nat) (row : Nat → List Value) (h : SlArg w0 a len c (List.replicate 3 pInt) row) :
    Calls Try.prog 11 #[ia ch, .slice a len c] w0 fun e w' => e = .returned (.bool true) ∧ Below w0.heap.size w0 w' := by
  obtain ⟨r, hr⟩ := h.ints
  exact vcounts_walk w0 ch hch a len c r hr
end Go.Proofs.Ytaeapoidigglnaa
