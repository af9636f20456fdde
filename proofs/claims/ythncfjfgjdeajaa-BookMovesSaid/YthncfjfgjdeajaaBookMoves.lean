/-
  The law BookMoves. No condition.
-/
import Derived.Test.YthncfjfgjdeajaaBookFit
import Derived.Test.YthncfjfgjdeajaaBookFill
import Derived.Test.YthncfjfgjdeajaaMoveLaw
namespace Go.Proofs.Ythncfjfgjdeajaa
open Go.RowKit
set_option maxRecDepth 100000
theorem rem5 {z : Int} (h : 0 ≤ z) : ∃ f : Nat, f < 5 ∧ z.tmod 5 = (f : Int) := ⟨(z % 5).toNat, by omega, by rw [Int.tmod_eq_emod_of_nonneg h]; omega⟩
theorem and3 (x : Int) : ∃ k : Nat, k < 4 ∧ bits BinOp.and IntKind.i64 x 3 = (k : Int) := by
  obtain ⟨h0, h1⟩ := and_range x 3 (by decide)
  rw [show bits BinOp.and IntKind.i64 x ((3 : Nat) : Int) = bits BinOp.and IntKind.i64 x 3 from rfl] at h0 h1
  exact ⟨(bits BinOp.and IntKind.i64 x 3).toNat, by omega, by omega⟩
theorem nmv {T : List Nat} {w0 w : World} {a b c : Nat} {e1 e2 e3 : TypeId} {z1 z2 z3 : List Int} {m : List Res} (_ : Inv T w0 w (ib a e1 z1 :: ib b e2 z2 :: ib c e3 z3 :: m)) : ∃ a' b' c', a' = a ∧ b' = b ∧ c' = c := ⟨a, b, c, rfl, rfl, rfl⟩
set_option maxHeartbeats 6400000 in
theorem moves_walk (w0 : World) (a : Option Addr) (len c : Nat) (row : Nat → List Int) (h : IArg w0 a len 174 row) (how : List Int) (hh : how.length = 3) :
    Calls Try.prog 13 #[.slice a len c, ia how] w0 fun e w' => e = .returned (.bool true) ∧ Below w0.heap.size w0 w' := by
  have hI := Inv.start w0
  have hz := nau_len 870
  by_cases hbig : 10 < len
  · have hb : decide ((10 : Int) < (len : Int)) = true := by simp; omega
    clear h
    go_enter Try.func13, Try.ntmps13
    go_wp2_with (first | ((with_reducible refine wpList_on  (by with_unfolding_all rfl) ?_)) | (go_at_call 31; refine (fit05 _).mono ?_; rintro e w1 ⟨rfl, hw1⟩; replace hI := hI.call hw1; clear hw1) | ((with_reducible refine wpList_box_ia hI (by with_unfolding_all rfl) ?_); clear hI; intro bx w hI))
    go_ret
    exact ⟨rfl, hI.below⟩
  have hb : decide ((10 : Int) < (len : Int)) = false := by simp; omega
  have hk0 := fS_bk (row := row) len (fun j hj => ⟨(h.row j hj).1, (h.row j hj).2.1⟩) len (Nat.le_refl _)
  have hk := Lib.hid hk0
  have hml := hk0.len
  clear hk0
  go_enter Try.func13, Try.ntmps13
  go_upto_region 6 with (first | ((with_reducible refine wpList_on  (by with_unfolding_all rfl) ?_)) | (go_at_call 31; refine (fit05 _).mono ?_; rintro e w1 ⟨rfl, hw1⟩; replace hI := hI.call hw1; clear hw1) | (go_at_call 32; (with_reducible refine (filled_any _ _ len _ row (h.later hI)).mono ?_); rintro e w1 ⟨bb, rfl, hJ⟩; replace hI := hI.seq hJ; simp only [List.cons_append, List.nil_append] at hI; clear hJ) | ((with_reducible refine wpList_alloc_ia hI (by first | with_reducible exact zi22 | with_reducible exact zi24 | with_reducible exact zi25 | with_reducible exact zi26 | with_reducible exact zi28 | with_reducible exact zi47 | with_reducible exact zi73) ?_); clear hI; intro bx w hI) | ((with_reducible refine wpList_store_iw hI (by with_unfolding_all rfl) (by with_unfolding_all rfl) (by first | with_reducible exact uu0 | with_reducible exact uu1 | with_reducible exact uu2 | with_reducible exact uu3 | with_reducible exact uu4 | with_reducible exact uu5 | with_reducible exact uu6 | with_reducible exact uu7 | with_reducible exact uu8 | with_reducible exact uu9) (by first | with_reducible exact agg22 | with_reducible exact agg24 | with_reducible exact agg25 | with_reducible exact agg26 | with_reducible exact agg28 | with_reducible exact agg47 | with_reducible exact agg70 | with_reducible exact agg73) (by (repeat (first | rw [List.length_set] | rw [nau_len] | rw [sub_len] | rw [spl_len])) <;> omega) (by (repeat (first | rw [List.length_set] | rw [nau_len] | rw [sub_len] | rw [spl_len])) <;> omega) ?_); clear hI; intro w hI) | ((with_reducible refine wpList_box_ia hI (by with_unfolding_all rfl) ?_); clear hI; intro bx w hI))
  (try simp only [Act.put])
  obtain ⟨b6, bk, b3, e6, ek, e3⟩ := nmv hI
  subst e6 ek e3
  clear h hb
  generalize fS row len = m at *
  (refine wp_region_reg (C := fun w' => Inv _ _ w' _) [] (fun w' => Inv _ _ w' _) hI.drew (fun _ h => h) mixed (by kernel_rfl) ?_; clear hI; (repeat (first | ((with_reducible refine wpReg_skip (by with_unfolding_all rfl) ?_); simp only [Act.put, List.setIfInBounds_toArray, List.set_cons_succ, List.set_cons_zero]) | ((with_reducible apply wpReg_read); rfl; rfl; (focus ((intro w hI0; have hI : Inv _ _ w _ := hI0; clear hI0); go_wp2_with (first | ((with_reducible refine wpList_load_iw hI (by with_unfolding_all rfl) (by first | with_reducible exact mm0 | with_reducible exact mm1 | with_reducible exact mm2 | with_reducible exact mm3 | with_reducible exact mm4 | with_reducible exact mm5 | with_reducible exact mm6 | with_reducible exact mm7 | with_reducible exact mm8 | with_reducible exact mm9) (by first | with_reducible exact agg22 | with_reducible exact agg24 | with_reducible exact agg25 | with_reducible exact agg26 | with_reducible exact agg28 | with_reducible exact agg47 | with_reducible exact agg70 | with_reducible exact agg73) (by (repeat (first | rw [List.length_set] | rw [nau_len] | rw [sub_len] | rw [spl_len])) <;> omega) ?_)) | ((with_reducible refine wpList_load_ia hI (by with_unfolding_all rfl) (by first | with_reducible exact mm0 | with_reducible exact mm1 | with_reducible exact mm2 | with_reducible exact mm3 | with_reducible exact mm4 | with_reducible exact mm5 | with_reducible exact mm6 | with_reducible exact mm7 | with_reducible exact mm8 | with_reducible exact mm9) (by first | with_reducible exact agg22 | with_reducible exact agg24 | with_reducible exact agg25 | with_reducible exact agg26 | with_reducible exact agg28 | with_reducible exact agg47 | with_reducible exact agg70 | with_reducible exact agg73) (by (repeat (first | rw [List.length_set] | rw [nau_len] | rw [sub_len] | rw [spl_len])) <;> omega) ?_)) | ((with_reducible refine wpList_load_i1 hI (by with_unfolding_all rfl) (by first | with_reducible exact mm0 | with_reducible exact mm1 | with_reducible exact mm2 | with_reducible exact mm3 | with_reducible exact mm4 | with_reducible exact mm5 | with_reducible exact mm6 | with_reducible exact mm7 | with_reducible exact mm8 | with_reducible exact mm9) (by first | with_reducible exact one3 | with_reducible exact one4 | with_reducible exact one31) (by (repeat (first | rw [List.length_set] | rw [nau_len] | rw [sub_len] | rw [spl_len])) <;> omega) ?_))); (try simp only [Act.put, List.setIfInBounds_toArray, List.set_cons_succ, List.set_cons_zero]); exact ⟨rfl, rfl, hI⟩)); (first | exact ⟨_, rfl⟩ | exact ⟨undef, rfl⟩)) | ((with_reducible apply wpReg_pure); rfl; rfl; (focus (intro D w hD hE; have hI : Inv _ _ w _ := hE; (try simp only [List.eraseIdx_cons_succ, List.eraseIdx_cons_zero] at hI); go_wp2_with (first | ((with_reducible refine wpList_on  (by with_unfolding_all rfl) ?_)) | ((with_reducible refine wpList_eq_ia  (by with_unfolding_all rfl) (by with_unfolding_all rfl) (by first | with_reducible exact agg22 | with_reducible exact agg24 | with_reducible exact agg25 | with_reducible exact agg26 | with_reducible exact agg28 | with_reducible exact agg47 | with_reducible exact agg70 | with_reducible exact agg73) (by first | with_reducible exact flatT22 | with_reducible exact flatT24 | with_reducible exact flatT25 | with_reducible exact flatT26 | with_reducible exact flatT28) (by (repeat (first | rw [List.length_set] | rw [nau_len] | rw [sub_len] | rw [spl_len])) <;> omega) (by (repeat (first | rw [List.length_set] | rw [nau_len] | rw [sub_len] | rw [spl_len])) <;> omega) ?_)) | ((with_reducible refine wpList_ne_ia  (by with_unfolding_all rfl) (by with_unfolding_all rfl) (by first | with_reducible exact agg22 | with_reducible exact agg24 | with_reducible exact agg25 | with_reducible exact agg26 | with_reducible exact agg28 | with_reducible exact agg47 | with_reducible exact agg70 | with_reducible exact agg73) (by first | with_reducible exact flatT22 | with_reducible exact flatT24 | with_reducible exact flatT25 | with_reducible exact flatT26 | with_reducible exact flatT28) (by (repeat (first | rw [List.length_set] | rw [nau_len] | rw [sub_len] | rw [spl_len])) <;> omega) (by (repeat (first | rw [List.length_set] | rw [nau_len] | rw [sub_len] | rw [spl_len])) <;> omega) ?_)) | fail); (try simp only [Act.put, List.setIfInBounds_toArray, List.set_cons_succ, List.set_cons_zero]); exact ⟨rfl, rfl, hD⟩)); (first | exact ⟨_, rfl⟩ | exact ⟨undef, rfl⟩)))); ((with_reducible refine wpReg_nil ?_); intro w hI0; have hI : Inv _ _ w _ := hI0; clear hI0))
  (try simp only [Act.put, List.setIfInBounds_toArray, List.set_cons_succ, List.set_cons_zero])
  obtain ⟨f, hf5, hfe⟩ := rem5 (and_range (gi how 0) 255 (by decide)).1
  obtain ⟨t, ht5, hte⟩ := rem5 (and_range (gi how 1) 255 (by decide)).1
  obtain ⟨k4, hk4, hke⟩ := and3 (gi how 2)
  rw [show bits BinOp.and IntKind.i64 (gi how 0) 255 = bits BinOp.and IntKind.i64 (gi how 0) ((255 : Nat) : Int) from rfl, show bits BinOp.and IntKind.i64 (gi how 1) 255 = bits BinOp.and IntKind.i64 (gi how 1) ((255 : Nat) : Int) from rfl, hfe, hte, hke]
  clear hfe hte hke
  have hfn : (f : Int).toNat = f := by simp
  have htn : (t : Int).toNat = t := by simp
  have hf5' : (f : Int) < 5 := by omega
  have ht5' : (t : Int) < 5 := by omega
  by_cases hft : f = t
  · have g1 : ((f : Int) == (t : Int)) = true := by simp [hft]
    clear hft
    go_wp2_with (first | ((with_reducible refine wpList_on  (by with_unfolding_all rfl) ?_)) | ((with_reducible refine wpList_load_i1 hI (by with_unfolding_all rfl) (by first | with_reducible exact mm0 | with_reducible exact mm1 | with_reducible exact mm2 | with_reducible exact mm3 | with_reducible exact mm4 | with_reducible exact mm5 | with_reducible exact mm6 | with_reducible exact mm7 | with_reducible exact mm8 | with_reducible exact mm9) (by first | with_reducible exact one3 | with_reducible exact one4 | with_reducible exact one31) (by (repeat (first | rw [List.length_set] | rw [nau_len] | rw [sub_len] | rw [spl_len])) <;> omega) ?_)))
    go_ret
    exact ⟨rfl, hI.below⟩
  have g1 : ((f : Int) == (t : Int)) = false := by simp; omega
  by_cases hv : 1125899906842624 < gi m (f * 174)
  · have g2 : decide (1125899906842624 < gi m (f * 174)) = true := by simpa using hv
    clear hv hft
    go_wp2_with (first | ((with_reducible refine wpList_on  (by with_unfolding_all rfl) ?_)) | ((with_reducible refine wpList_load_i1 hI (by with_unfolding_all rfl) (by first | with_reducible exact mm0 | with_reducible exact mm1 | with_reducible exact mm2 | with_reducible exact mm3 | with_reducible exact mm4 | with_reducible exact mm5 | with_reducible exact mm6 | with_reducible exact mm7 | with_reducible exact mm8 | with_reducible exact mm9) (by first | with_reducible exact one3 | with_reducible exact one4 | with_reducible exact one31) (by (repeat (first | rw [List.length_set] | rw [nau_len] | rw [sub_len] | rw [spl_len])) <;> omega) ?_)))
    go_ret
    exact ⟨rfl, hI.below⟩
  have g2 : decide (1125899906842624 < gi m (f * 174)) = false := by simpa using hv
  by_cases hh1 : 0 < gi m (t * 174 + 29 + f)
  · have g3 : decide (0 < gi m (t * 174 + 29 + f)) = true := by simpa using hh1
    clear hh1 hv hft
    go_wp2_with (first | ((with_reducible refine wpList_on  (by with_unfolding_all rfl) ?_)) | ((with_reducible refine wpList_load_i1 hI (by with_unfolding_all rfl) (by first | with_reducible exact mm0 | with_reducible exact mm1 | with_reducible exact mm2 | with_reducible exact mm3 | with_reducible exact mm4 | with_reducible exact mm5 | with_reducible exact mm6 | with_reducible exact mm7 | with_reducible exact mm8 | with_reducible exact mm9) (by first | with_reducible exact one3 | with_reducible exact one4 | with_reducible exact one31) (by (repeat (first | rw [List.length_set] | rw [nau_len] | rw [sub_len] | rw [spl_len])) <;> omega) ?_)))
    go_ret
    exact ⟨rfl, hI.below⟩
  have g3 : decide (0 < gi m (t * 174 + 29 + f)) = false := by simpa using hh1
  by_cases hh2 : 0 < gi m (f * 174 + 29 + t)
  · have g4 : decide (0 < gi m (f * 174 + 29 + t)) = true := by simpa using hh2
    clear hh2 hh1 hv hft
    go_wp2_with (first | ((with_reducible refine wpList_on  (by with_unfolding_all rfl) ?_)) | ((with_reducible refine wpList_load_i1 hI (by with_unfolding_all rfl) (by first | with_reducible exact mm0 | with_reducible exact mm1 | with_reducible exact mm2 | with_reducible exact mm3 | with_reducible exact mm4 | with_reducible exact mm5 | with_reducible exact mm6 | with_reducible exact mm7 | with_reducible exact mm8 | with_reducible exact mm9) (by first | with_reducible exact one3 | with_reducible exact one4 | with_reducible exact one31) (by (repeat (first | rw [List.length_set] | rw [nau_len] | rw [sub_len] | rw [spl_len])) <;> omega) ?_)))
    go_ret
    exact ⟨rfl, hI.below⟩
  have g4 : decide (0 < gi m (f * 174 + 29 + t)) = false := by simpa using hh2
  go_upto_region 9 with (first | ((with_reducible refine wpList_on  (by with_unfolding_all rfl) ?_)) | ((with_reducible refine wpList_load_i1 hI (by with_unfolding_all rfl) (by first | with_reducible exact mm0 | with_reducible exact mm1 | with_reducible exact mm2 | with_reducible exact mm3 | with_reducible exact mm4 | with_reducible exact mm5 | with_reducible exact mm6 | with_reducible exact mm7 | with_reducible exact mm8 | with_reducible exact mm9) (by first | with_reducible exact one3 | with_reducible exact one4 | with_reducible exact one31) (by (repeat (first | rw [List.length_set] | rw [nau_len] | rw [sub_len] | rw [spl_len])) <;> omega) ?_)))
  (try simp only [Act.put, List.setIfInBounds_toArray, List.set_cons_succ, List.set_cons_zero])
  clear g1 g2 g3 g4 hh1 hh2
  go_wp2_with fail
  go_loopg [10, 66] 5 (fun kk s10 i wr => ∃ l : Nat, kk = 5 - l ∧ l ≤ 5 ∧ i = .int .i64 l ∧ Hid (∀ i, i < l → gi m (i * 174 + 29 + f) ≤ 0 ∧ gi m (i * 174 + 29 + t) ≤ 0) ∧ Inv [] w0 wr [ib b6 47 m, ib bk 73 m, ib b3 70 how])
  case atStart => exact ⟨0, rfl, by omega, rfl, Lib.hid (fun i h => by omega), hI⟩
  case round =>
    clear hI
    obtain ⟨l, rfl, hl, rfl, hno, hI⟩ := hrel
    by_cases hl5 : l < 5
    · have hl5' : (l : Int) < 5 := by omega
      have hln : (l : Int).toNat = l := by simp
      by_cases h1 : 0 < gi m (l * 174 + 29 + f)
      · have g1 : decide (0 < gi m (l * 174 + 29 + f)) = true := by simpa using h1
        clear h1 hv hft hno
        go_wp2_with (first | ((with_reducible refine wpList_on  (by with_unfolding_all rfl) ?_)) | ((with_reducible refine wpList_load_i1 hI (by with_unfolding_all rfl) (by first | with_reducible exact mm0 | with_reducible exact mm1 | with_reducible exact mm2 | with_reducible exact mm3 | with_reducible exact mm4 | with_reducible exact mm5 | with_reducible exact mm6 | with_reducible exact mm7 | with_reducible exact mm8 | with_reducible exact mm9) (by first | with_reducible exact one3 | with_reducible exact one4 | with_reducible exact one31) (by (repeat (first | rw [List.length_set] | rw [nau_len] | rw [sub_len] | rw [spl_len])) <;> omega) ?_)))
        go_ret
        exact ⟨rfl, hI.below⟩
      have g1 : decide (0 < gi m (l * 174 + 29 + f)) = false := by simpa using h1
      by_cases h2 : 0 < gi m (l * 174 + 29 + t)
      · have g2 : decide (0 < gi m (l * 174 + 29 + t)) = true := by simpa using h2
        clear h1 h2 hv hft hno
        go_wp2_with (first | ((with_reducible refine wpList_on  (by with_unfolding_all rfl) ?_)) | ((with_reducible refine wpList_load_i1 hI (by with_unfolding_all rfl) (by first | with_reducible exact mm0 | with_reducible exact mm1 | with_reducible exact mm2 | with_reducible exact mm3 | with_reducible exact mm4 | with_reducible exact mm5 | with_reducible exact mm6 | with_reducible exact mm7 | with_reducible exact mm8 | with_reducible exact mm9) (by first | with_reducible exact one3 | with_reducible exact one4 | with_reducible exact one31) (by (repeat (first | rw [List.length_set] | rw [nau_len] | rw [sub_len] | rw [spl_len])) <;> omega) ?_)))
        go_ret
        exact ⟨rfl, hI.below⟩
      have g2 : decide (0 < gi m (l * 174 + 29 + t)) = false := by simpa using h2
      have hno2 : Hid (∀ i, i < l + 1 → gi m (i * 174 + 29 + f) ≤ 0 ∧ gi m (i * 174 + 29 + t) ≤ 0) := Lib.hid fun i hi => by
        by_cases he : i = l
        · subst he; exact ⟨by omega, by omega⟩
        · exact hno.out i (by omega)
      clear h1 h2 hv hft hno
      go_wp2_with (first | ((with_reducible refine wpList_on  (by with_unfolding_all rfl) ?_)) | ((with_reducible refine wpList_load_i1 hI (by with_unfolding_all rfl) (by first | with_reducible exact mm0 | with_reducible exact mm1 | with_reducible exact mm2 | with_reducible exact mm3 | with_reducible exact mm4 | with_reducible exact mm5 | with_reducible exact mm6 | with_reducible exact mm7 | with_reducible exact mm8 | with_reducible exact mm9) (by first | with_reducible exact one3 | with_reducible exact one4 | with_reducible exact one31) (by (repeat (first | rw [List.length_set] | rw [nau_len] | rw [sub_len] | rw [spl_len])) <;> omega) ?_)))
      go_roundg (5 - (l + 1))
      case measure => omega
      case rel => exact ⟨l + 1, rfl, by omega, by go_num, hno2, hI⟩
    · obtain rfl : l = 5 := by omega
      have n0 : 0 ≤ bits BinOp.and IntKind.i64 (gi how 2 / 4) 15 := (and_range (gi how 2 / 4) 15 (by decide)).1
      have n1 : bits BinOp.and IntKind.i64 (gi how 2 / 4) 15 ≤ 15 := (and_range (gi how 2 / 4) 15 (by decide)).2
      obtain ⟨xr, xw⟩ := hk.out.row f hf5
      have hxv : gi (sub m (f * 174) 174) 0 < 9223372036854775807 := by rw [gi_sub _ _ _ _ (by omega), Nat.add_zero]; omega
      have hh1 : ∀ w, w < 5 → gi (sub m (w * 174) 174) (29 + f) ≤ 0 := fun w hw => by rw [gi_sub _ _ _ _ (by omega), ← Nat.add_assoc]; exact (hno.out w hw).1
      have hh2 : ∀ w, w < 5 → gi (sub m (w * 174) 174) (29 + t) ≤ 0 := fun w hw => by rw [gi_sub _ _ _ _ (by omega), ← Nat.add_assoc]; exact (hno.out w hw).2
      have b1 := rS_bound (allC_num hk.out (k4 : Int) 5 (Nat.le_refl _)) (sub m (f * 174) 174) f 5
      have b2 := rS_bound (allC_num hk.out (k4 : Int) 5 (Nat.le_refl _)) (sub m (t * 174) 174) t 5
      rw [← rights_eq hf5] at b1
      rw [← rights_eq ht5] at b2
      have hlaw := fun n hn he => moves_law (n := n) hk.out hf5 ht5 hft hk4 hn hxv hh1 hh2 he
      have hxl : (sub m (f * 174) 174).length = 174 := by rw [sub_len]; omega
      have hxr := xr
      clear hno hh1 hh2 hv hft xw xr
      go_upto_region 16 with (first | ((with_reducible refine wpList_on  (by with_unfolding_all rfl) ?_)) | ((with_reducible refine wpList_load_i1 hI (by with_unfolding_all rfl) (by first | with_reducible exact mm0 | with_reducible exact mm1 | with_reducible exact mm2 | with_reducible exact mm3 | with_reducible exact mm4 | with_reducible exact mm5 | with_reducible exact mm6 | with_reducible exact mm7 | with_reducible exact mm8 | with_reducible exact mm9) (by first | with_reducible exact one3 | with_reducible exact one4 | with_reducible exact one31) (by (repeat (first | rw [List.length_set] | rw [nau_len] | rw [sub_len] | rw [spl_len])) <;> omega) ?_)))
      (try simp only [Act.put, List.setIfInBounds_toArray, List.set_cons_succ, List.set_cons_zero])
      obtain ⟨n, hn⟩ : ∃ n, n = bits BinOp.and IntKind.i64 (gi how 2 / 4) 15 + 1 := ⟨_, rfl⟩
      rw [← hn]
      have hn1 : 1 ≤ n := by omega
      have hn16 : n ≤ 16 := by omega
      clear hn n0 n1
      replace hlaw := Lib.hid (hlaw n hn1)
      obtain ⟨vv, hvv⟩ : ∃ vv, Hid (vTo m k4 5 = vv) := ⟨_, Lib.hid rfl⟩
      obtain ⟨rf, hrf⟩ : ∃ rf, Hid (rightsF m f k4 = rf) := ⟨_, Lib.hid rfl⟩
      obtain ⟨rt, hrt⟩ : ∃ rt, Hid (rightsF m t k4 = rt) := ⟨_, Lib.hid rfl⟩
      rw [hrf.out] at b1
      rw [hrt.out] at b2
      obtain ⟨b1, b3'⟩ := b1
      obtain ⟨b2, b4'⟩ := b2
      go_upto_region 17 with (first | ((with_reducible refine wpList_on  (by with_unfolding_all rfl) ?_)) | (go_at_call 35; (with_reducible refine (value_any _ bk 73 m hk.out (hI.ibk (by (first | with_reducible exact mm0 | with_reducible exact mm1 | with_reducible exact mm2 | with_reducible exact mm3 | with_reducible exact mm4 | with_reducible exact mm5 | with_reducible exact mm6 | with_reducible exact mm7 | with_reducible exact mm8 | with_reducible exact mm9))) _).mono ?_); rw [hvv.out]; rintro e w1 ⟨rfl, hst, hbk⟩; replace hI := hI.icall (by (first | with_reducible exact uu0 | with_reducible exact uu1 | with_reducible exact uu2 | with_reducible exact uu3 | with_reducible exact uu4 | with_reducible exact uu5 | with_reducible exact uu6 | with_reducible exact uu7 | with_reducible exact uu8 | with_reducible exact uu9)) hst hbk; clear hst hbk) | (go_at_call 33; (with_reducible refine (rights_any _ bk 73 m hk.out (hI.ibk (by (first | with_reducible exact mm0 | with_reducible exact mm1 | with_reducible exact mm2 | with_reducible exact mm3 | with_reducible exact mm4 | with_reducible exact mm5 | with_reducible exact mm6 | with_reducible exact mm7 | with_reducible exact mm8 | with_reducible exact mm9))) (f : Int) (k4 : Int)).mono ?_); rw [hrf.out]; rintro e w1 ⟨rfl, hst, hbk⟩; replace hI := hI.icall (by (first | with_reducible exact uu0 | with_reducible exact uu1 | with_reducible exact uu2 | with_reducible exact uu3 | with_reducible exact uu4 | with_reducible exact uu5 | with_reducible exact uu6 | with_reducible exact uu7 | with_reducible exact uu8 | with_reducible exact uu9)) hst hbk; clear hst hbk) | (go_at_call 33; (with_reducible refine (rights_any _ bk 73 m hk.out (hI.ibk (by (first | with_reducible exact mm0 | with_reducible exact mm1 | with_reducible exact mm2 | with_reducible exact mm3 | with_reducible exact mm4 | with_reducible exact mm5 | with_reducible exact mm6 | with_reducible exact mm7 | with_reducible exact mm8 | with_reducible exact mm9))) (t : Int) (k4 : Int)).mono ?_); rw [hrt.out]; rintro e w1 ⟨rfl, hst, hbk⟩; replace hI := hI.icall (by (first | with_reducible exact uu0 | with_reducible exact uu1 | with_reducible exact uu2 | with_reducible exact uu3 | with_reducible exact uu4 | with_reducible exact uu5 | with_reducible exact uu6 | with_reducible exact uu7 | with_reducible exact uu8 | with_reducible exact uu9)) hst hbk; clear hst hbk))
      (try simp only [Act.put, List.setIfInBounds_toArray, List.set_cons_succ, List.set_cons_zero])
      obtain ⟨⟨z, e⟩, hg⟩ : ∃ r : List Int × Int, giveF (sub m (f * 174) 174) (k4 : Int) n (t : Int) = r := ⟨_, rfl⟩
      have hgv := Lib.hid hg
      have hzl : z.length = 174 := by have := giveF_len (sub m (f * 174) 174) (k4 : Int) n (t : Int) hxl; rw [hg] at this; exact this
      by_cases he : e = 0
      · obtain ⟨l1, l2, l3, l4, l5⟩ := hlaw.out (by rw [hg]; exact he)
        rw [hg] at l1 l2 l3 l4 l5
        have hmb : Hid (mergeB m f z = true) := Lib.hid l2
        obtain ⟨m2, hm2⟩ : ∃ m2, mergeM m f z = m2 := ⟨_, rfl⟩
        have hmm := Lib.hid hm2
        have hk2 : Hid (Bk m2) := Lib.hid (by rw [← hm2]; exact l1)
        have hml2 := hk2.out.len
        have hv2 : Hid (vTo m2 k4 5 = vv) := Lib.hid (by rw [← hm2, ← hvv.out]; exact l3)
        have hf2 : Hid (rightsF m2 f k4 = rf - n) := Lib.hid (by rw [← hm2, ← hrf.out]; exact l4)
        have ht2 : Hid (rightsF m2 t k4 = rt + n) := Lib.hid (by rw [← hm2, ← hrt.out]; exact l5)
        have e1 : (vv == vv) = true := by simp
        have e2 : ((rf - n) == (rf - n)) = true := by simp
        have e3 : ((rt + n) == (rt + n)) = true := by simp
        subst he
        clear l1 l2 l3 l4 l5 hm2 hg hlaw
        go_wp2_with (first | ((with_reducible refine wpList_on  (by with_unfolding_all rfl) ?_)) | ((with_reducible refine wpList_load_iw hI (by with_unfolding_all rfl) (by first | with_reducible exact mm0 | with_reducible exact mm1 | with_reducible exact mm2 | with_reducible exact mm3 | with_reducible exact mm4 | with_reducible exact mm5 | with_reducible exact mm6 | with_reducible exact mm7 | with_reducible exact mm8 | with_reducible exact mm9) (by first | with_reducible exact agg22 | with_reducible exact agg24 | with_reducible exact agg25 | with_reducible exact agg26 | with_reducible exact agg28 | with_reducible exact agg47 | with_reducible exact agg70 | with_reducible exact agg73) (by (repeat (first | rw [List.length_set] | rw [nau_len] | rw [sub_len] | rw [spl_len])) <;> omega) ?_)) | ((with_reducible refine wpList_load_ia hI (by with_unfolding_all rfl) (by first | with_reducible exact mm0 | with_reducible exact mm1 | with_reducible exact mm2 | with_reducible exact mm3 | with_reducible exact mm4 | with_reducible exact mm5 | with_reducible exact mm6 | with_reducible exact mm7 | with_reducible exact mm8 | with_reducible exact mm9) (by first | with_reducible exact agg22 | with_reducible exact agg24 | with_reducible exact agg25 | with_reducible exact agg26 | with_reducible exact agg28 | with_reducible exact agg47 | with_reducible exact agg70 | with_reducible exact agg73) (by (repeat (first | rw [List.length_set] | rw [nau_len] | rw [sub_len] | rw [spl_len])) <;> omega) ?_)) | ((with_reducible refine wpList_alloc_ia hI (by first | with_reducible exact zi22 | with_reducible exact zi24 | with_reducible exact zi25 | with_reducible exact zi26 | with_reducible exact zi28 | with_reducible exact zi47 | with_reducible exact zi73) ?_); clear hI; intro bx w hI) | ((with_reducible refine wpList_store_iw hI (by with_unfolding_all rfl) (by with_unfolding_all rfl) (by first | with_reducible exact uu0 | with_reducible exact uu1 | with_reducible exact uu2 | with_reducible exact uu3 | with_reducible exact uu4 | with_reducible exact uu5 | with_reducible exact uu6 | with_reducible exact uu7 | with_reducible exact uu8 | with_reducible exact uu9) (by first | with_reducible exact agg22 | with_reducible exact agg24 | with_reducible exact agg25 | with_reducible exact agg26 | with_reducible exact agg28 | with_reducible exact agg47 | with_reducible exact agg70 | with_reducible exact agg73) (by (repeat (first | rw [List.length_set] | rw [nau_len] | rw [sub_len] | rw [spl_len])) <;> omega) (by (repeat (first | rw [List.length_set] | rw [nau_len] | rw [sub_len] | rw [spl_len])) <;> omega) ?_); clear hI; intro w hI) | (go_at_call 24; (with_reducible refine (give_any _ _ (k4 : Int) n (t : Int) hxl hxr hxv).mono ?_); rw [hgv.out]; rintro e w1 ⟨rfl, hw1⟩; replace hI := hI.call hw1; clear hw1) | (go_at_call 37; (with_reducible refine (merge_any _ bk 73 m hk.out (hI.ibk (by (first | with_reducible exact mm0 | with_reducible exact mm1 | with_reducible exact mm2 | with_reducible exact mm3 | with_reducible exact mm4 | with_reducible exact mm5 | with_reducible exact mm6 | with_reducible exact mm7 | with_reducible exact mm8 | with_reducible exact mm9))) (f : Int) z hzl).mono ?_); rw [hmb.out, hmm.out]; rintro e w1 ⟨rfl, hst, hbk⟩; replace hI := hI.icall (by (first | with_reducible exact uu0 | with_reducible exact uu1 | with_reducible exact uu2 | with_reducible exact uu3 | with_reducible exact uu4 | with_reducible exact uu5 | with_reducible exact uu6 | with_reducible exact uu7 | with_reducible exact uu8 | with_reducible exact uu9)) hst hbk; clear hst hbk) | (go_at_call 35; (with_reducible refine (value_any _ bk 73 m2 hk2.out (hI.ibk (by (first | with_reducible exact mm0 | with_reducible exact mm1 | with_reducible exact mm2 | with_reducible exact mm3 | with_reducible exact mm4 | with_reducible exact mm5 | with_reducible exact mm6 | with_reducible exact mm7 | with_reducible exact mm8 | with_reducible exact mm9))) _).mono ?_); rw [hv2.out]; rintro e w1 ⟨rfl, hst, hbk⟩; replace hI := hI.icall (by (first | with_reducible exact uu0 | with_reducible exact uu1 | with_reducible exact uu2 | with_reducible exact uu3 | with_reducible exact uu4 | with_reducible exact uu5 | with_reducible exact uu6 | with_reducible exact uu7 | with_reducible exact uu8 | with_reducible exact uu9)) hst hbk; clear hst hbk) | (go_at_call 33; (with_reducible refine (rights_any _ bk 73 m2 hk2.out (hI.ibk (by (first | with_reducible exact mm0 | with_reducible exact mm1 | with_reducible exact mm2 | with_reducible exact mm3 | with_reducible exact mm4 | with_reducible exact mm5 | with_reducible exact mm6 | with_reducible exact mm7 | with_reducible exact mm8 | with_reducible exact mm9))) (f : Int) (k4 : Int)).mono ?_); rw [hf2.out]; rintro e w1 ⟨rfl, hst, hbk⟩; replace hI := hI.icall (by (first | with_reducible exact uu0 | with_reducible exact uu1 | with_reducible exact uu2 | with_reducible exact uu3 | with_reducible exact uu4 | with_reducible exact uu5 | with_reducible exact uu6 | with_reducible exact uu7 | with_reducible exact uu8 | with_reducible exact uu9)) hst hbk; clear hst hbk) | (go_at_call 33; (with_reducible refine (rights_any _ bk 73 m2 hk2.out (hI.ibk (by (first | with_reducible exact mm0 | with_reducible exact mm1 | with_reducible exact mm2 | with_reducible exact mm3 | with_reducible exact mm4 | with_reducible exact mm5 | with_reducible exact mm6 | with_reducible exact mm7 | with_reducible exact mm8 | with_reducible exact mm9))) (t : Int) (k4 : Int)).mono ?_); rw [ht2.out]; rintro e w1 ⟨rfl, hst, hbk⟩; replace hI := hI.icall (by (first | with_reducible exact uu0 | with_reducible exact uu1 | with_reducible exact uu2 | with_reducible exact uu3 | with_reducible exact uu4 | with_reducible exact uu5 | with_reducible exact uu6 | with_reducible exact uu7 | with_reducible exact uu8 | with_reducible exact uu9)) hst hbk; clear hst hbk))
        go_ret
        exact ⟨rfl, hI.below⟩
      · have g1 : (e != 0) = true := by simp [he]
        clear he hg hlaw
        go_wp2_with (first | ((with_reducible refine wpList_on  (by with_unfolding_all rfl) ?_)) | ((with_reducible refine wpList_load_iw hI (by with_unfolding_all rfl) (by first | with_reducible exact mm0 | with_reducible exact mm1 | with_reducible exact mm2 | with_reducible exact mm3 | with_reducible exact mm4 | with_reducible exact mm5 | with_reducible exact mm6 | with_reducible exact mm7 | with_reducible exact mm8 | with_reducible exact mm9) (by first | with_reducible exact agg22 | with_reducible exact agg24 | with_reducible exact agg25 | with_reducible exact agg26 | with_reducible exact agg28 | with_reducible exact agg47 | with_reducible exact agg70 | with_reducible exact agg73) (by (repeat (first | rw [List.length_set] | rw [nau_len] | rw [sub_len] | rw [spl_len])) <;> omega) ?_)) | ((with_reducible refine wpList_load_ia hI (by with_unfolding_all rfl) (by first | with_reducible exact mm0 | with_reducible exact mm1 | with_reducible exact mm2 | with_reducible exact mm3 | with_reducible exact mm4 | with_reducible exact mm5 | with_reducible exact mm6 | with_reducible exact mm7 | with_reducible exact mm8 | with_reducible exact mm9) (by first | with_reducible exact agg22 | with_reducible exact agg24 | with_reducible exact agg25 | with_reducible exact agg26 | with_reducible exact agg28 | with_reducible exact agg47 | with_reducible exact agg70 | with_reducible exact agg73) (by (repeat (first | rw [List.length_set] | rw [nau_len] | rw [sub_len] | rw [spl_len])) <;> omega) ?_)) | ((with_reducible refine wpList_alloc_ia hI (by first | with_reducible exact zi22 | with_reducible exact zi24 | with_reducible exact zi25 | with_reducible exact zi26 | with_reducible exact zi28 | with_reducible exact zi47 | with_reducible exact zi73) ?_); clear hI; intro bx w hI) | ((with_reducible refine wpList_store_iw hI (by with_unfolding_all rfl) (by with_unfolding_all rfl) (by first | with_reducible exact uu0 | with_reducible exact uu1 | with_reducible exact uu2 | with_reducible exact uu3 | with_reducible exact uu4 | with_reducible exact uu5 | with_reducible exact uu6 | with_reducible exact uu7 | with_reducible exact uu8 | with_reducible exact uu9) (by first | with_reducible exact agg22 | with_reducible exact agg24 | with_reducible exact agg25 | with_reducible exact agg26 | with_reducible exact agg28 | with_reducible exact agg47 | with_reducible exact agg70 | with_reducible exact agg73) (by (repeat (first | rw [List.length_set] | rw [nau_len] | rw [sub_len] | rw [spl_len])) <;> omega) (by (repeat (first | rw [List.length_set] | rw [nau_len] | rw [sub_len] | rw [spl_len])) <;> omega) ?_); clear hI; intro w hI) | (go_at_call 24; (with_reducible refine (give_any _ _ (k4 : Int) n (t : Int) hxl hxr hxv).mono ?_); rw [hgv.out]; rintro e w1 ⟨rfl, hw1⟩; replace hI := hI.call hw1; clear hw1))
        go_ret
        exact ⟨rfl, hI.below⟩
theorem moves_cells (w0 : World) (a : Option Addr) (len c : Nat) (row : Nat → List Value) (how : List Int) (h : SlArg w0 a len c (List.replicate 174 pInt) row) (hh : how.length = 3) :
    Calls Try.prog 13 #[.slice a len c, ia how] w0 fun e w' => e = .returned (.bool true) ∧ Below w0.heap.size w0 w' := by
  obtain ⟨r, hr⟩ := h.ints
  exact moves_walk w0 a len c r hr how hh
end Go.Proofs.Ythncfjfgjdeajaa
