/-
  The law VoteOnce: its walk. No condition.
-/
import Derived.Test.YtaeapoidigglnaaOnceK0
import Derived.Test.YtaeapoidigglnaaOnceK1
import Derived.Test.YtaeapoidigglnaaOnceK2
import Derived.Test.YtaeapoidigglnaaOnceK3
import Derived.Test.YtaeapoidigglnaaOnceK4
import Derived.Test.YtaeapoidigglnaaViewShapes
import Derived.Deep.LoopGhost
namespace Go.Proofs.Ytaeapoidigglnaa
open Go.RowKit
set_option maxRecDepth 100000
set_option linter.unusedSimpArgs false
set_option linter.unusedVariables false
section
variable {P : Program} {ops : Array Oper} {Q : Exit → Act → World → Prop} {a : Act} {rest : List Oper} {T : List Nat} {w0 w : World} {m : List Res} {dst : Option Tmp} {ty : TypeId} {pos : String} {af : Array Edge}
theorem wpList_load_osi {x : Operand} {t k g g0 off n c : Nat} {e size : Nat} {xs : List Value} {vs : List Int} (hI : Inv T w0 w m) (hx : a.eval x = .pointer (some ⟨g, off, none⟩)) (hm : osl e size (.slice (some ⟨g, g0, none⟩) n c) n xs ∈ m) (hT : AggT P t k) (hl : off + k ≤ xs.length) (hv : (xs.drop off).take k = vs.map (Value.int .i64))
    (K : wpList P ops Q rest (a.put dst (ia vs)) w) : wpList P ops Q (⟨dst, .load t x, ty, pos, af, none⟩ :: rest) a w := wpList_load_osa hI hx hm hT hl hv K
end
theorem and_rngo (x : Int) (M : Nat) (h : M < 9223372036854775808) : 0 ≤ bits .and .i64 x M ∧ bits .and .i64 x M ≤ M := by
  have hM : (BitVec.ofInt 64 (M : Int)).toNat = M := by rw [BitVec.toNat_ofInt]; omega
  have key : (BitVec.ofInt 64 x &&& BitVec.ofInt 64 (M : Int)).toNat ≤ M := by
    rw [BitVec.toNat_and, hM]
    exact Nat.and_le_right
  have e : bits .and .i64 x M = IntKind.i64.wrap (((BitVec.ofInt 64 x &&& BitVec.ofInt 64 (M : Int)).toNat : Nat) : Int) := rfl
  rw [e]
  generalize (BitVec.ofInt 64 x &&& BitVec.ofInt 64 (M : Int)).toNat = r at *
  simp [IntKind.wrap, IntKind.bits, IntKind.signed]
  omega
theorem rem_nat {z : Int} {n : Nat} (h : 0 ≤ z) (hn : 0 < n) : ∃ f : Nat, f < n ∧ z.tmod n = (f : Int) := by
  refine ⟨(z % n).toNat, ?_, ?_⟩
  · have := Int.emod_lt_of_pos z (show (0 : Int) < n by omega)
    have := Int.emod_nonneg z (show (n : Int) ≠ 0 by omega)
    omega
  · rw [Int.tmod_eq_emod_of_nonneg h]
    have := Int.emod_nonneg z (show (n : Int) ≠ 0 by omega)
    omega
def initA (e : Int) (j : Nat) : List Int := rl (fun a => (if a < j then e else 0) :: nau 7) 5
theorem initA_0 (e : Int) : nau 40 = initA e 0 := rfl
theorem initA_5 (e : Int) : initA e 5 = lA e (fun _ => ⟨0, 0, 0, 0, [0, 0, 0]⟩) := rfl
theorem initA_set (e : Int) : ∀ j, j < 5 → (initA e j).set (j * 8) e = initA e (j + 1)
  | 0, _ => rfl
  | 1, _ => rfl
  | 2, _ => rfl
  | 3, _ => rfl
  | 4, _ => rfl
theorem initA_len (e : Int) (j : Nat) : (initA e j).length = 40 := by unfold initA; rw [rl_len (q := 8) (fun _ _ => rfl)]
theorem nm2o {T : List Nat} {w0 w : World} {a b : Nat} {e1 e2 : TypeId} {z1 z2 : List Int} (_ : Inv T w0 w [ib a e1 z1, ib b e2 z2]) : ∃ a' b', a' = a ∧ b' = b := ⟨a, b, rfl, rfl⟩
theorem nm1o {T : List Nat} {w0 w : World} {a : Nat} {e1 : TypeId} {z1 : List Int} {m : List Res} (_ : Inv T w0 w (ib a e1 z1 :: m)) : ∃ a', a' = a := ⟨a, rfl⟩
set_option maxHeartbeats 6400000 in
theorem once_walk (w0 : World) (la : Option Addr) (ll lc : Nat) (lrow : Nat → List Int) (hl : IArg w0 la ll 3 lrow) (ca : Option Addr) (cl cc : Nat) (crow : Nat → List Int) (hc : IArg w0 ca cl 6 crow) :
    Calls Try.prog 17 #[.slice la ll lc, .slice ca cl cc] w0 fun e w' => e = .returned (.bool true) ∧ Below w0.heap.size w0 w' := by
  have hI := Inv.start w0
  have l0 := hl.reach
  have l1 := hc.reach
  by_cases hbig : 20 < ll
  · have hb : decide ((20 : Int) < (ll : Int)) = true := by simp; omega
    clear hl hc hbig
    go_enter Try.func17, Try.ntmps17
    go_wp2_with (first | ((with_reducible refine wpList_on  (by with_unfolding_all rfl) ?_)) | (go_at_call 28; refine (fit13 _).mono ?_; rintro e w1 ⟨rfl, hw1⟩; replace hI := hI.call hw1; clear hw1))
    go_ret
    exact ⟨rfl, hI.below⟩
  have hb : decide ((20 : Int) < (ll : Int)) = false := by simp; omega
  by_cases hbig2 : 250 < cl
  · have hb2 : decide ((250 : Int) < (cl : Int)) = true := by simp; omega
    clear hl hc hbig hbig2
    go_enter Try.func17, Try.ntmps17
    go_wp2_with (first | ((with_reducible refine wpList_on  (by with_unfolding_all rfl) ?_)) | (go_at_call 28; refine (fit13 _).mono ?_; rintro e w1 ⟨rfl, hw1⟩; replace hI := hI.call hw1; clear hw1))
    go_ret
    exact ⟨rfl, hI.below⟩
  have hb2 : decide ((250 : Int) < (cl : Int)) = false := by simp; omega
  have hcl : cl ≤ 250 := by omega
  clear hbig2
  obtain ⟨hn0, g⟩ := beh_good lrow ll
  have hv7 := g.len
  have hm1 : (((beh lrow ll).2 + 1 : Nat) : Int) ≤ 1000 := by omega
  clear hbig hn0
  go_enter Try.func17, Try.ntmps17
  go_upto_region 7 with (first | ((with_reducible refine wpList_on  (by with_unfolding_all rfl) ?_)) | (go_at_call 28; refine (fit13 _).mono ?_; rintro e w1 ⟨rfl, hw1⟩; replace hI := hI.call hw1; clear hw1) | (go_at_call 40; refine (behind_any _ _ _ _ _ (hl.later hI)).mono ?_; rintro e w1 ⟨rfl, hw1⟩; replace hI := hI.call hw1; clear hw1) | ((with_reducible refine wpList_alloc_ia hI (by first | with_reducible exact zi53 | with_reducible exact zi51 | with_reducible exact zi27 | with_reducible exact zi25 | with_reducible exact zi29 | with_reducible exact zi80 | with_reducible exact zi85) ?_); clear hI; intro bx w hI) | ((with_reducible refine wpList_store_iw hI (by with_unfolding_all rfl) (by with_unfolding_all rfl) (by first | with_reducible exact uu0 | with_reducible exact uu1 | with_reducible exact uu2 | with_reducible exact uu3 | with_reducible exact uu4 | with_reducible exact uu5 | with_reducible exact uu6 | with_reducible exact uu7 | with_reducible exact uu8 | with_reducible exact uu9) (by first | with_reducible exact agg53 | with_reducible exact agg51 | with_reducible exact agg27 | with_reducible exact agg25 | with_reducible exact agg29 | with_reducible exact agg85) (by (repeat (first | rw [List.length_set] | rw [nau_len] | rw [sub_len] | rw [spl_len])) <;> omega) (by (repeat (first | rw [List.length_set] | rw [nau_len] | rw [sub_len] | rw [spl_len])) <;> omega) ?_); clear hI; intro w hI))
  (try simp only [Act.put, List.setIfInBounds_toArray, List.set_cons_succ, List.set_cons_zero])
  generalize (beh lrow ll).1 = v at *
  generalize (beh lrow ll).2 = n0 at *
  clear hl hb hb2
  obtain ⟨b7, b5, q1, q2⟩ := nm2o hI
  subst q1 q2
  rw [initA_0 (gi v 0)] at hI
  go_wp2_with fail
  go_loopg [8, 45] 5 (fun kk s8 i wr => ∃ (j : Nat), kk = 5 - j ∧ j ≤ 5 ∧ i = .int .i64 j ∧ Inv [] w0 wr [ib b7 80 (initA (gi v 0) j), ib b5 53 v])
  case atStart => exact ⟨0, by omega, by omega, rfl, hI⟩
  case round =>
    clear hI
    obtain ⟨j, rfl, hj, rfl, hI⟩ := hrel
    by_cases hj5 : j < 5
    · have hjj : (j : Int) < 5 := by omega
      have hj0 : (0 : Int) ≤ (j : Int) := by omega
      have hil := initA_len (gi v 0) j
      go_wp2_with (first | ((with_reducible refine wpList_load_i1 hI (by with_unfolding_all rfl) (by first | with_reducible exact mm0 | with_reducible exact mm1 | with_reducible exact mm2 | with_reducible exact mm3 | with_reducible exact mm4 | with_reducible exact mm5 | with_reducible exact mm6 | with_reducible exact mm7 | with_reducible exact mm8 | with_reducible exact mm9) (by first | with_reducible exact one3 | with_reducible exact one4 | with_reducible exact one40) (by (repeat (first | rw [List.length_set] | rw [nau_len] | rw [sub_len] | rw [spl_len])) <;> omega) ?_)) | ((with_reducible refine wpList_store_i1 hI (by with_unfolding_all rfl) (by with_unfolding_all rfl) (by first | with_reducible exact uu0 | with_reducible exact uu1 | with_reducible exact uu2 | with_reducible exact uu3 | with_reducible exact uu4 | with_reducible exact uu5 | with_reducible exact uu6 | with_reducible exact uu7 | with_reducible exact uu8 | with_reducible exact uu9) (by first | with_reducible exact one3 | with_reducible exact one4 | with_reducible exact one40) (by (repeat (first | rw [List.length_set] | rw [nau_len] | rw [sub_len] | rw [spl_len])) <;> omega) ?_); clear hI; intro w hI))
      rw [initA_set _ j hj5] at hI
      go_roundg (5 - (j + 1))
      case measure => omega
      case rel => exact ⟨j + 1, by omega, by omega, by go_num, hI⟩
    · obtain rfl : j = 5 := by omega
      rw [initA_5] at hI
      replace hI := hI.fam0 (fvt v (fun _ => 0) (fun _ => ⟨[], 0, 0, 0, 0, false⟩) (fun _ => 0))
      replace hI := ((((hI.nilSl 27 3).nilSl 27 3).nilSl 89 5).nilSl 88 30).nilSl 55 1
      have hI2 : Inv [] w0 wr (OMem b5 b7 v 0 (fun _ => 0) (fun _ => ⟨[], 0, 0, 0, 0, false⟩) (fun _ => ⟨0, 0, 0, 0, [0, 0, 0]⟩) (fun _ => zVw) (fun _ => false) [] (fun _ => 0) (none, 0) (none, 0) (none, 0) (none, 0) (none, 0)) := hI
      have hG0 : Hid (Once (gi v 1) (fun _ => 0) 0 (fun _ => ⟨[], 0, 0, 0, 0, false⟩) (fun _ => ⟨0, 0, 0, 0, [0, 0, 0]⟩) (fun _ => zVw) (fun _ => false) []) := Lib.hid (Once.start (fun _ => [0, 0, 0]) (fun _ => rfl) _ _ _)
      clear hI
      have hI := hI2
      clear hI2
      go_upto_region 17 with fail
      go_wp2_with fail
      go_loopg [9, 10, 11, 12, 13, 15, 16, 17, 18, 19, 20, 21, 22, 23, 24, 25, 26, 27, 56] cl (fun kk s9 s10 s11 s12 s13 s15 s16 s17 s18 s19 s20 s21 s22 s23 s24 s25 s26 s27 i wr => ∃ (j n : Nat) (W : Nat → Int) (vt : Nat → Vt) (ac : Nat → Ac) (vw : Nat → Vw) (tk : Nat → Bool) (cs : List (List Int)) (pv : Nat → Nat) (x9 x10 x11 x12 x13 : Oth), kk = cl - j ∧ j ≤ cl ∧ i = .int .i64 j ∧
        s9 = .slice x9.1 n x9.2 ∧ s10 = .slice x10.1 n x10.2 ∧ s11 = .slice x11.1 n x11.2 ∧ s12 = .slice x12.1 n x12.2 ∧ s13 = .slice x13.1 cs.length x13.2 ∧ n ≤ j ∧ cs.length ≤ j ∧ Hid (Once (gi v 1) W n vt ac vw tk cs) ∧ Inv [] w0 wr (OMem b5 b7 v n W vt ac vw tk cs pv x9 x10 x11 x12 x13))
      case atStart => exact ⟨0, 0, _, _, _, _, _, [], _, _, _, _, _, _, by omega, by omega, rfl, rfl, rfl, rfl, rfl, rfl, Nat.le_refl _, Nat.le_refl _, hG0, hI⟩
      case round =>
        clear hI hG0 hj5 hj
        obtain ⟨j, n, W, vt, ac, vw, tk, cs, pv, x9, x10, x11, x12, x13, rfl, hj, rfl, rfl, rfl, rfl, rfl, rfl, hnj, hcj, hG, hI⟩ := hrel
        by_cases hlj : j < cl
        · obtain ⟨hX, hxr, b, off, rfl, hcell⟩ := hc.row j hlj
          have hl6 : ((crow j).map (Value.int .i64)).length = 6 := by simpa using hX
          have hagg : AggT Try.prog 85 ((crow j).map (Value.int .i64)).length := by rw [hl6]; exact agg85
          clear hc hxr
          generalize crow j = X at *
          obtain ⟨z, hz⟩ : ∃ z, (gi X 0).tmod 5 = z := ⟨_, rfl⟩
          have hz1 : -5 < z := by rw [← hz]; exact Int.lt_tmod_of_pos (gi X 0) (by decide)
          have hz2 : z < 5 := by rw [← hz]; exact Int.tmod_lt_of_pos (gi X 0) (by decide)
          obtain ⟨d, hd⟩ : ∃ d, (z + 5).tmod 5 = d := ⟨_, rfl⟩
          have hd5 : ∃ k : Nat, k < 5 ∧ d = k := by
            obtain ⟨k, h1, h2⟩ := rem_nat (z := z + 5) (n := 5) (by omega) (by decide)
            exact ⟨k, h1, by rw [← hd]; exact h2⟩
          unfold OMem at hI
          go_upto_region 21 with (first | (with_reducible refine wpList_load_arg hI (by with_unfolding_all rfl) hcell (by simp) (by with_unfolding_all exact hagg) ?_) | ((with_reducible refine wpList_alloc_ia hI (by first | with_reducible exact zi53 | with_reducible exact zi51 | with_reducible exact zi27 | with_reducible exact zi25 | with_reducible exact zi29 | with_reducible exact zi80 | with_reducible exact zi85) ?_); clear hI; intro bx w hI) | ((with_reducible refine wpList_store_iw hI (by with_unfolding_all rfl) (by with_unfolding_all rfl) (by first | with_reducible exact uu0 | with_reducible exact uu1 | with_reducible exact uu2 | with_reducible exact uu3 | with_reducible exact uu4 | with_reducible exact uu5 | with_reducible exact uu6 | with_reducible exact uu7 | with_reducible exact uu8 | with_reducible exact uu9) (by first | with_reducible exact agg53 | with_reducible exact agg51 | with_reducible exact agg27 | with_reducible exact agg25 | with_reducible exact agg29 | with_reducible exact agg85) (by (repeat (first | rw [List.length_set] | rw [nau_len] | rw [sub_len] | rw [spl_len])) <;> omega) (by (repeat (first | rw [List.length_set] | rw [nau_len] | rw [sub_len] | rw [spl_len])) <;> omega) ?_); clear hI; intro w hI) | ((with_reducible refine wpList_load_i1 hI (by with_unfolding_all rfl) (by first | with_reducible exact mm0 | with_reducible exact mm1 | with_reducible exact mm2 | with_reducible exact mm3 | with_reducible exact mm4 | with_reducible exact mm5 | with_reducible exact mm6 | with_reducible exact mm7 | with_reducible exact mm8 | with_reducible exact mm9) (by first | with_reducible exact one3 | with_reducible exact one4 | with_reducible exact one40) (by (repeat (first | rw [List.length_set] | rw [nau_len] | rw [sub_len] | rw [spl_len])) <;> omega) ?_)))
          obtain ⟨b15, q1⟩ := nm1o hI
          subst q1
          clear hcell hagg hl6 hz1 hz2 hd hz
          by_cases hd0 : d = 0
          · subst hd0
            go_upto_if 66 with fail
            (try simp only [Act.put, List.setIfInBounds_toArray, List.set_cons_succ, List.set_cons_zero])
            refine vo_k0 g (by omega) hm1 hX (by omega) hG (Lib.hid ?_) hI
            clear hI hG
            intro n' W' vt' vw' tk' pv' x9' x10' x11' x12' wx
            intros
            rename_i hn' hG' hI'
            (go_wp2_with fail; go_roundg (cl - (j + 1)); (case measure => omega))
            case rel => exact ⟨j + 1, n', W', vt', ac, vw', tk', cs, pv', x9', x10', x11', x12', x13, by omega, by omega, by go_num, rfl, rfl, rfl, rfl, rfl, by omega, by omega, hG', hI'⟩
          have hdb : (d == 0) = false := by simp [hd0]
          by_cases hn00 : n = 0
          · have hnb : ((n : Int) == 0) = true := by simp [hn00]
            clear hd5
            (go_wp2_with fail; go_roundg (cl - (j + 1)); (case measure => omega))
            case rel => exact ⟨j + 1, n, W, vt, ac, vw, tk, cs, pv, x9, x10, x11, x12, x13, by omega, by omega, by go_num, rfl, rfl, rfl, rfl, rfl, by omega, by omega, hG, hI.sub (.cons _ (.refl _))⟩
          have hnb : ((n : Int) == 0) = false := by simp [hn00]
          have hn0 : (n : Int) ≠ 0 := by omega
          obtain ⟨i, hi, hie⟩ := rem_nat (and_rngo (gi X 1) 65535 (by decide)).1 (show 0 < n by omega)
          obtain ⟨a, ha, hae⟩ := rem_nat (and_rngo (gi X 2) 255 (by decide)).1 (show 0 < 5 by decide)
          replace hie : (bits BinOp.and IntKind.i64 (gi X 1) 65535).tmod (n : Int) = (i : Int) := hie
          replace hae : (bits BinOp.and IntKind.i64 (gi X 2) 255).tmod 5 = (a : Int) := hae
          obtain ⟨a9, c9⟩ := x9
          dsimp only at hI
          obtain ⟨g9, rfl⟩ := osl_some (a' := a9) (n' := n) (c := c9) (e := 55) (size := 1) (n := n) (xs := lP n pv) hI mm1 (by rw [lP_len]; omega)
          have hpat := Lib.hid (lP_at (pv := pv) hi)
          go_upto_region 27 with fail
          (replace hI := hI.drew; refine wp_region_one [ ] mixed (by kernel_rfl) ?_; (generalize hwd : World.drew _ = wd at hI ⊢; clear hwd))
          (repeat (first | ((with_reducible refine wpReg_skip (by with_unfolding_all rfl) ?_); simp only [Act.put, List.setIfInBounds_toArray, List.set_cons_succ, List.set_cons_zero]) | ((with_reducible refine wpReg_look (by with_unfolding_all rfl) (by with_unfolding_all rfl) (by with_unfolding_all rfl) ?_); go_wp2_with (first | ((with_reducible refine wpList_load_i1 hI (by with_unfolding_all rfl) (by first | with_reducible exact mm0 | with_reducible exact mm1 | with_reducible exact mm2 | with_reducible exact mm3 | with_reducible exact mm4 | with_reducible exact mm5 | with_reducible exact mm6 | with_reducible exact mm7 | with_reducible exact mm8 | with_reducible exact mm9) (by first | with_reducible exact one3 | with_reducible exact one4 | with_reducible exact one40) (by (repeat (first | rw [List.length_set] | rw [nau_len] | rw [sub_len] | rw [spl_len])) <;> omega) ?_)) | ((with_reducible refine wpList_load_iw hI (by with_unfolding_all rfl) (by first | with_reducible exact mm0 | with_reducible exact mm1 | with_reducible exact mm2 | with_reducible exact mm3 | with_reducible exact mm4 | with_reducible exact mm5 | with_reducible exact mm6 | with_reducible exact mm7 | with_reducible exact mm8 | with_reducible exact mm9) (by first | with_reducible exact agg53 | with_reducible exact agg51 | with_reducible exact agg27 | with_reducible exact agg25 | with_reducible exact agg29 | with_reducible exact agg85) (by (repeat (first | rw [List.length_set] | rw [nau_len] | rw [sub_len] | rw [spl_len])) <;> omega) ?_)) | (with_reducible refine wpList_load_osi hI (by with_unfolding_all rfl) (by (first | with_reducible exact mm0 | with_reducible exact mm1 | with_reducible exact mm2 | with_reducible exact mm3 | with_reducible exact mm4 | with_reducible exact mm5 | with_reducible exact mm6 | with_reducible exact mm7 | with_reducible exact mm8 | with_reducible exact mm9)) agg27 (by rw [hl3.out]; omega) hcat0.out ?_) | ((with_reducible refine wpList_ne_same  (by with_unfolding_all rfl) (by with_unfolding_all rfl) (by first | with_reducible exact agg53 | with_reducible exact agg51 | with_reducible exact agg27 | with_reducible exact agg25 | with_reducible exact agg29 | with_reducible exact agg85) (by first | with_reducible exact flatT53 | with_reducible exact flatT51 | with_reducible exact flatT27 | with_reducible exact flatT25) (by (repeat (first | rw [List.length_set] | rw [nau_len] | rw [sub_len] | rw [spl_len])) <;> omega) ?_))); (try refine ⟨rfl, rfl, ?_⟩)) | ((with_reducible apply wpReg_pure); rfl; rfl; (focus (intro D w hD hE; go_wp2_with (first | fail); (try simp only [Act.put, List.setIfInBounds_toArray, List.set_cons_succ, List.set_cons_zero]); exact ⟨rfl, rfl, hD⟩)); (first | exact ⟨_, rfl⟩ | exact ⟨undef, rfl⟩))))
          ((with_reducible refine wpReg_nil ?_); rintro _ rfl; (try simp only [Act.put, List.setIfInBounds_toArray, List.set_cons_succ, List.set_cons_zero]))
          clear hie hae hn0
          have hi0 : (0 : Int) ≤ (i : Int) := by omega
          have hi1 : (i : Int) < (n : Int) := by omega
          go_upto_block 4 with (first | (with_reducible refine wpList_load_os1 hI (by with_unfolding_all rfl) (by (first | with_reducible exact mm0 | with_reducible exact mm1 | with_reducible exact mm2 | with_reducible exact mm3 | with_reducible exact mm4 | with_reducible exact mm5 | with_reducible exact mm6 | with_reducible exact mm7 | with_reducible exact mm8 | with_reducible exact mm9)) one55 hpat.out ?_))
          have hd4 : d = 1 ∨ d = 2 ∨ d = 3 ∨ d = 4 := by
            obtain ⟨k, hk5, hk⟩ := hd5
            omega
          clear hd5 hd0 hdb hnb hpat
          replace hI := hI.sub (.cons _ (.refl _))
          rcases hd4 with rfl | rfl | rfl | rfl
          · refine vo_k1 (x9 := (some ⟨g9, 0, none⟩, c9)) (i := i) (a := a) hv7 hi ha hG ?_ (fun _ _ _ _ hd h => by have h2 : _ ∧ _ := h; exact And.intro (hd.symm.trans h2.1) h2.2) hI
            clear hI hG
            intro ac' vw' wx
            intros
            rename_i hG' hI'
            (go_wp2_with fail; go_roundg (cl - (j + 1)); (case measure => omega))
            case rel => exact ⟨j + 1, n, W, vt, ac', vw', tk, cs, pv, (some ⟨g9, 0, none⟩, c9), x10, x11, x12, x13, by omega, by omega, by go_num, rfl, rfl, rfl, rfl, rfl, by omega, by omega, hG', hI'⟩
          · refine vo_k2 (x9 := (some ⟨g9, 0, none⟩, c9)) (i := i) (a := a) hv7 hi ha hG ?_ (fun _ _ _ _ hd h => by have h2 : _ ∧ _ := h; exact And.intro (hd.symm.trans h2.1) h2.2) hI
            clear hI hG
            intro vt' wx
            intros
            rename_i hG' hI'
            (go_wp2_with fail; go_roundg (cl - (j + 1)); (case measure => omega))
            case rel => exact ⟨j + 1, n, W, vt', ac, vw, tk, cs, pv, (some ⟨g9, 0, none⟩, c9), x10, x11, x12, x13, by omega, by omega, by go_num, rfl, rfl, rfl, rfl, rfl, by omega, by omega, hG', hI'⟩
          · refine vo_k3 (x9 := (some ⟨g9, 0, none⟩, c9)) (i := i) (a := a) hv7 hi ha hG ?_ (Lib.hid ?_) (fun _ _ _ _ hd h => by have h2 : _ ∧ _ := h; exact And.intro (hd.symm.trans h2.1) h2.2) hI
            · clear hI hG
              intro ac' tk' wx
              intros
              rename_i hG' hI'
              (go_wp2_with fail; go_roundg (cl - (j + 1)); (case measure => omega))
              case rel => exact ⟨j + 1, n, W, vt, ac', vw, tk', cs, pv, (some ⟨g9, 0, none⟩, c9), x10, x11, x12, x13, by omega, by omega, by go_num, rfl, rfl, rfl, rfl, rfl, by omega, by omega, hG', hI'⟩
            · clear hI
              intro wx
              intros
              rename_i hI'
              (go_wp2_with fail; go_roundg (cl - (j + 1)); (case measure => omega))
              case rel => exact ⟨j + 1, n, W, vt, ac, vw, tk, cs, pv, (some ⟨g9, 0, none⟩, c9), x10, x11, x12, x13, by omega, by omega, by go_num, rfl, rfl, rfl, rfl, rfl, by omega, by omega, hG, hI'⟩
          · refine vo_k4 (x9 := (some ⟨g9, 0, none⟩, c9)) (i := i) (a := a) hv7 hi ha hG (by omega) ?_ (fun _ _ _ _ hd h => by have h2 : _ ∧ _ := h; exact And.intro (hd.symm.trans h2.1) h2.2) hI
            clear hI hG
            intro vt' cs' x13' l13 wx
            intros
            rename_i hl13 hcs' hG' hI'
            (go_wp2_with fail; go_roundg (cl - (j + 1)); (case measure => omega))
            case rel => exact ⟨j + 1, n, W, vt', ac, vw, tk, cs', pv, (some ⟨g9, 0, none⟩, c9), x10, x11, x12, x13', by omega, by omega, by go_num, rfl, rfl, rfl, rfl, by rw [hl13], by omega, by omega, hG', hI'⟩
        · obtain rfl : j = cl := by omega
          clear hc hlj
          have hlaw := hG.out.law
          have h3 : ∀ c ∈ cs, c.length = 3 := fun c hcc => by
            obtain ⟨i, hi, rfl, _⟩ := hG.out.ce c hcc
            exact (hG.out.vl i hi).1
          have hl3 := Lib.hid (lC_len h3)
          obtain ⟨a13, c13⟩ := x13
          unfold OMem at hI
          go_wp2_with fail
          go_loopg [29, 230] cs.length (fun kk s29 i wr => ∃ (k : Nat), kk = cs.length - k ∧ k ≤ cs.length ∧ i = .int .i64 k ∧ Inv [] w0 wr [osl 55 1 (.slice x9.1 n x9.2) n (lP n pv), osl 88 30 (.slice x10.1 n x10.2) n (lV n vw), osl 89 5 (.slice x11.1 n x11.2) n (lT n tk), osl 27 3 (.slice x12.1 n x12.2) n (lU n), osl 27 3 (.slice a13 cs.length c13) cs.length (lC cs), fam (List.range n) (fvt v W vt pv), ib b7 80 (lA (gi v 0) ac), ib b5 53 v])
          case atStart => exact ⟨0, by omega, by omega, rfl, hI⟩
          case round =>
            clear hI
            obtain ⟨k, rfl, hk, rfl, hI⟩ := hrel
            by_cases hkl : k < cs.length
            · obtain ⟨g13, rfl⟩ := osl_some (a' := a13) (n' := cs.length) (c := c13) (e := 27) (size := 3) (n := cs.length) (xs := lC cs) hI mm4 (by rw [hl3.out]; omega)
              obtain ⟨c0, hc0⟩ : ∃ c0, cs[0]? = some c0 := ⟨cs[0], List.getElem?_eq_getElem (by omega)⟩
              have hck : cs[k]? = some c0 := by
                rw [List.getElem?_eq_getElem hkl]
                have := hlaw cs[k] (List.getElem_mem hkl) c0 (List.mem_of_getElem? hc0)
                rw [this]
              have hl0 : c0.length = 3 := h3 c0 (List.mem_of_getElem? hc0)
              have hcat := Lib.hid (lC_at h3 hck)
              have hcat0 := Lib.hid (lC_at h3 hc0)
              have hk0 : (0 : Int) ≤ (k : Int) := by omega
              have hk1 : (k : Int) < (cs.length : Int) := by omega
              have hcl0 : (0 : Int) < (cs.length : Int) := by omega
              clear hc0 hck hlaw h3
              go_upto_region 53 with (first | (with_reducible refine wpList_load_osi hI (by with_unfolding_all rfl) (by (first | with_reducible exact mm0 | with_reducible exact mm1 | with_reducible exact mm2 | with_reducible exact mm3 | with_reducible exact mm4 | with_reducible exact mm5 | with_reducible exact mm6 | with_reducible exact mm7 | with_reducible exact mm8 | with_reducible exact mm9)) agg27 (by rw [hl3.out]; omega) hcat.out ?_) | ((with_reducible refine wpList_alloc_ia hI (by first | with_reducible exact zi53 | with_reducible exact zi51 | with_reducible exact zi27 | with_reducible exact zi25 | with_reducible exact zi29 | with_reducible exact zi80 | with_reducible exact zi85) ?_); clear hI; intro bx w hI) | ((with_reducible refine wpList_store_iw hI (by with_unfolding_all rfl) (by with_unfolding_all rfl) (by first | with_reducible exact uu0 | with_reducible exact uu1 | with_reducible exact uu2 | with_reducible exact uu3 | with_reducible exact uu4 | with_reducible exact uu5 | with_reducible exact uu6 | with_reducible exact uu7 | with_reducible exact uu8 | with_reducible exact uu9) (by first | with_reducible exact agg53 | with_reducible exact agg51 | with_reducible exact agg27 | with_reducible exact agg25 | with_reducible exact agg29 | with_reducible exact agg85) (by (repeat (first | rw [List.length_set] | rw [nau_len] | rw [sub_len] | rw [spl_len])) <;> omega) (by (repeat (first | rw [List.length_set] | rw [nau_len] | rw [sub_len] | rw [spl_len])) <;> omega) ?_); clear hI; intro w hI))
              (replace hI := hI.drew; refine wp_region_one [ ] mixed (by kernel_rfl) ?_; (generalize hwd : World.drew _ = wd at hI ⊢; clear hwd))
              (repeat (first | ((with_reducible refine wpReg_skip (by with_unfolding_all rfl) ?_); simp only [Act.put, List.setIfInBounds_toArray, List.set_cons_succ, List.set_cons_zero]) | ((with_reducible refine wpReg_look (by with_unfolding_all rfl) (by with_unfolding_all rfl) (by with_unfolding_all rfl) ?_); go_wp2_with (first | ((with_reducible refine wpList_load_i1 hI (by with_unfolding_all rfl) (by first | with_reducible exact mm0 | with_reducible exact mm1 | with_reducible exact mm2 | with_reducible exact mm3 | with_reducible exact mm4 | with_reducible exact mm5 | with_reducible exact mm6 | with_reducible exact mm7 | with_reducible exact mm8 | with_reducible exact mm9) (by first | with_reducible exact one3 | with_reducible exact one4 | with_reducible exact one40) (by (repeat (first | rw [List.length_set] | rw [nau_len] | rw [sub_len] | rw [spl_len])) <;> omega) ?_)) | ((with_reducible refine wpList_load_iw hI (by with_unfolding_all rfl) (by first | with_reducible exact mm0 | with_reducible exact mm1 | with_reducible exact mm2 | with_reducible exact mm3 | with_reducible exact mm4 | with_reducible exact mm5 | with_reducible exact mm6 | with_reducible exact mm7 | with_reducible exact mm8 | with_reducible exact mm9) (by first | with_reducible exact agg53 | with_reducible exact agg51 | with_reducible exact agg27 | with_reducible exact agg25 | with_reducible exact agg29 | with_reducible exact agg85) (by (repeat (first | rw [List.length_set] | rw [nau_len] | rw [sub_len] | rw [spl_len])) <;> omega) ?_)) | (with_reducible refine wpList_load_osi hI (by with_unfolding_all rfl) (by (first | with_reducible exact mm0 | with_reducible exact mm1 | with_reducible exact mm2 | with_reducible exact mm3 | with_reducible exact mm4 | with_reducible exact mm5 | with_reducible exact mm6 | with_reducible exact mm7 | with_reducible exact mm8 | with_reducible exact mm9)) agg27 (by rw [hl3.out]; omega) hcat0.out ?_) | ((with_reducible refine wpList_ne_same  (by with_unfolding_all rfl) (by with_unfolding_all rfl) (by first | with_reducible exact agg53 | with_reducible exact agg51 | with_reducible exact agg27 | with_reducible exact agg25 | with_reducible exact agg29 | with_reducible exact agg85) (by first | with_reducible exact flatT53 | with_reducible exact flatT51 | with_reducible exact flatT27 | with_reducible exact flatT25) (by (repeat (first | rw [List.length_set] | rw [nau_len] | rw [sub_len] | rw [spl_len])) <;> omega) ?_))); (try refine ⟨rfl, rfl, ?_⟩)) | ((with_reducible apply wpReg_pure); rfl; rfl; (focus (intro D w hD hE; go_wp2_with (first | fail); (try simp only [Act.put, List.setIfInBounds_toArray, List.set_cons_succ, List.set_cons_zero]); exact ⟨rfl, rfl, hD⟩)); (first | exact ⟨_, rfl⟩ | exact ⟨undef, rfl⟩))))
              ((with_reducible refine wpReg_nil ?_); rintro _ rfl; (try simp only [Act.put, List.setIfInBounds_toArray, List.set_cons_succ, List.set_cons_zero]))
              go_wp2_with fail
              go_roundg (cs.length - (k + 1))
              case measure => omega
              case rel => exact ⟨k + 1, by omega, by omega, by go_num, hI.sub (.cons _ (.refl _))⟩
            · obtain rfl : k = cs.length := by omega
              go_wp2_with fail
              go_ret
              exact ⟨rfl, hI.below⟩
end Go.Proofs.Ytaeapoidigglnaa
