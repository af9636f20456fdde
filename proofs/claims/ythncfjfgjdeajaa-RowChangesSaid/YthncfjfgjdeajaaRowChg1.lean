/-
  The law RowChanges: the head of the walk of kind 1. No condition.
-/
import Derived.Test.YthncfjfgjdeajaaRowChgT
namespace Go.Proofs.Ythncfjfgjdeajaa
open Go.RowKit
set_option maxRecDepth 100000 in
set_option maxHeartbeats 6400000 in
theorem changes_1 (w0 : World) (x how : List Int) (n0 : Int) (hx : x.length = 174) (hh : how.length = 2) (hw0 : Wf x) (hq0 : Hid ((bits BinOp.and IntKind.i64 n0 3).tmod 3 = 1)) :
    Calls Try.prog 8 #[ia x, ia how, .int .i64 n0] w0 fun e w' => e = .returned (.bool true) ∧ Below w0.heap.size w0 w' := by
  have hI := Inv.start w0
  have hn := nau_len 174
  have hw := Lib.hid hw0
  clear hw0
  cases hr : rowB x
  · go_enter Try.func8, Try.ntmps8
    go_wp2_with (first | ((with_reducible refine wpList_on  (by with_unfolding_all rfl) ?_)) | ((with_reducible refine wpList_load_iw hI (by with_unfolding_all rfl) (by first | with_reducible exact mm0 | with_reducible exact mm1 | with_reducible exact mm2 | with_reducible exact mm3 | with_reducible exact mm4 | with_reducible exact mm5 | with_reducible exact mm6 | with_reducible exact mm7 | with_reducible exact mm8 | with_reducible exact mm9) (by first | with_reducible exact agg22 | with_reducible exact agg24 | with_reducible exact agg25 | with_reducible exact agg26 | with_reducible exact agg28) (by (repeat (first | rw [List.length_set] | rw [nau_len] | rw [sub_len] | rw [spl_len])) <;> omega) ?_)) | ((with_reducible refine wpList_load_ia hI (by with_unfolding_all rfl) (by first | with_reducible exact mm0 | with_reducible exact mm1 | with_reducible exact mm2 | with_reducible exact mm3 | with_reducible exact mm4 | with_reducible exact mm5 | with_reducible exact mm6 | with_reducible exact mm7 | with_reducible exact mm8 | with_reducible exact mm9) (by first | with_reducible exact agg22 | with_reducible exact agg24 | with_reducible exact agg25 | with_reducible exact agg26 | with_reducible exact agg28) (by (repeat (first | rw [List.length_set] | rw [nau_len] | rw [sub_len] | rw [spl_len])) <;> omega) ?_)) | ((with_reducible refine wpList_load_i1 hI (by with_unfolding_all rfl) (by first | with_reducible exact mm0 | with_reducible exact mm1 | with_reducible exact mm2 | with_reducible exact mm3 | with_reducible exact mm4 | with_reducible exact mm5 | with_reducible exact mm6 | with_reducible exact mm7 | with_reducible exact mm8 | with_reducible exact mm9) (by first | with_reducible exact one3 | with_reducible exact one4 | with_reducible exact one31) (by (repeat (first | rw [List.length_set] | rw [nau_len] | rw [sub_len] | rw [spl_len])) <;> omega) ?_)) | ((with_reducible refine wpList_eq_ia  (by with_unfolding_all rfl) (by with_unfolding_all rfl) (by first | with_reducible exact agg22 | with_reducible exact agg24 | with_reducible exact agg25 | with_reducible exact agg26 | with_reducible exact agg28) (by first | with_reducible exact flatT22 | with_reducible exact flatT24 | with_reducible exact flatT25 | with_reducible exact flatT26 | with_reducible exact flatT28) (by (repeat (first | rw [List.length_set] | rw [nau_len] | rw [sub_len] | rw [spl_len])) <;> omega) (by (repeat (first | rw [List.length_set] | rw [nau_len] | rw [sub_len] | rw [spl_len])) <;> omega) ?_)) | ((with_reducible refine wpList_ne_ia  (by with_unfolding_all rfl) (by with_unfolding_all rfl) (by first | with_reducible exact agg22 | with_reducible exact agg24 | with_reducible exact agg25 | with_reducible exact agg26 | with_reducible exact agg28) (by first | with_reducible exact flatT22 | with_reducible exact flatT24 | with_reducible exact flatT25 | with_reducible exact flatT26 | with_reducible exact flatT28) (by (repeat (first | rw [List.length_set] | rw [nau_len] | rw [sub_len] | rw [spl_len])) <;> omega) (by (repeat (first | rw [List.length_set] | rw [nau_len] | rw [sub_len] | rw [spl_len])) <;> omega) ?_)) | fail | ((with_reducible refine wpList_box_ia hI (by with_unfolding_all rfl) ?_); clear hI; intro bx w hI) | (go_at_call 16; refine (fit04 _).mono ?_; rintro e w1 ⟨rfl, hw1⟩; replace hI := hI.call hw1; clear hw1) | (go_at_call 17; refine (lawRight_any _ _ (by assumption)).mono ?_; rintro e w1 ⟨rfl, hw1⟩; replace hI := hI.call hw1; clear hw1))
    go_ret
    exact ⟨rfl, hI.below⟩
  cases d1 : decide (1152921504606846976 < gi x 0)
  case true =>
    go_enter Try.func8, Try.ntmps8
    go_wp2_with (first | ((with_reducible refine wpList_on  (by with_unfolding_all rfl) ?_)) | ((with_reducible refine wpList_load_iw hI (by with_unfolding_all rfl) (by first | with_reducible exact mm0 | with_reducible exact mm1 | with_reducible exact mm2 | with_reducible exact mm3 | with_reducible exact mm4 | with_reducible exact mm5 | with_reducible exact mm6 | with_reducible exact mm7 | with_reducible exact mm8 | with_reducible exact mm9) (by first | with_reducible exact agg22 | with_reducible exact agg24 | with_reducible exact agg25 | with_reducible exact agg26 | with_reducible exact agg28) (by (repeat (first | rw [List.length_set] | rw [nau_len] | rw [sub_len] | rw [spl_len])) <;> omega) ?_)) | ((with_reducible refine wpList_load_ia hI (by with_unfolding_all rfl) (by first | with_reducible exact mm0 | with_reducible exact mm1 | with_reducible exact mm2 | with_reducible exact mm3 | with_reducible exact mm4 | with_reducible exact mm5 | with_reducible exact mm6 | with_reducible exact mm7 | with_reducible exact mm8 | with_reducible exact mm9) (by first | with_reducible exact agg22 | with_reducible exact agg24 | with_reducible exact agg25 | with_reducible exact agg26 | with_reducible exact agg28) (by (repeat (first | rw [List.length_set] | rw [nau_len] | rw [sub_len] | rw [spl_len])) <;> omega) ?_)) | ((with_reducible refine wpList_load_i1 hI (by with_unfolding_all rfl) (by first | with_reducible exact mm0 | with_reducible exact mm1 | with_reducible exact mm2 | with_reducible exact mm3 | with_reducible exact mm4 | with_reducible exact mm5 | with_reducible exact mm6 | with_reducible exact mm7 | with_reducible exact mm8 | with_reducible exact mm9) (by first | with_reducible exact one3 | with_reducible exact one4 | with_reducible exact one31) (by (repeat (first | rw [List.length_set] | rw [nau_len] | rw [sub_len] | rw [spl_len])) <;> omega) ?_)) | ((with_reducible refine wpList_eq_ia  (by with_unfolding_all rfl) (by with_unfolding_all rfl) (by first | with_reducible exact agg22 | with_reducible exact agg24 | with_reducible exact agg25 | with_reducible exact agg26 | with_reducible exact agg28) (by first | with_reducible exact flatT22 | with_reducible exact flatT24 | with_reducible exact flatT25 | with_reducible exact flatT26 | with_reducible exact flatT28) (by (repeat (first | rw [List.length_set] | rw [nau_len] | rw [sub_len] | rw [spl_len])) <;> omega) (by (repeat (first | rw [List.length_set] | rw [nau_len] | rw [sub_len] | rw [spl_len])) <;> omega) ?_)) | ((with_reducible refine wpList_ne_ia  (by with_unfolding_all rfl) (by with_unfolding_all rfl) (by first | with_reducible exact agg22 | with_reducible exact agg24 | with_reducible exact agg25 | with_reducible exact agg26 | with_reducible exact agg28) (by first | with_reducible exact flatT22 | with_reducible exact flatT24 | with_reducible exact flatT25 | with_reducible exact flatT26 | with_reducible exact flatT28) (by (repeat (first | rw [List.length_set] | rw [nau_len] | rw [sub_len] | rw [spl_len])) <;> omega) (by (repeat (first | rw [List.length_set] | rw [nau_len] | rw [sub_len] | rw [spl_len])) <;> omega) ?_)) | fail | ((with_reducible refine wpList_box_ia hI (by with_unfolding_all rfl) ?_); clear hI; intro bx w hI) | (go_at_call 16; refine (fit04 _).mono ?_; rintro e w1 ⟨rfl, hw1⟩; replace hI := hI.call hw1; clear hw1) | (go_at_call 17; refine (lawRight_any _ _ (by assumption)).mono ?_; rintro e w1 ⟨rfl, hw1⟩; replace hI := hI.call hw1; clear hw1))
    go_ret
    exact ⟨rfl, hI.below⟩
  have hv0 := (rowB_of hr).1
  have hv2 : gi x 0 ≤ 1152921504606846976 := by simp at d1; omega
  have hv1 : gi x 0 < 9223372036854775807 := by omega
  go_enter Try.func8, Try.ntmps8
  go_upto_region 5 with (first | ((with_reducible refine wpList_on  (by with_unfolding_all rfl) ?_)) | ((with_reducible refine wpList_load_iw hI (by with_unfolding_all rfl) (by first | with_reducible exact mm0 | with_reducible exact mm1 | with_reducible exact mm2 | with_reducible exact mm3 | with_reducible exact mm4 | with_reducible exact mm5 | with_reducible exact mm6 | with_reducible exact mm7 | with_reducible exact mm8 | with_reducible exact mm9) (by first | with_reducible exact agg22 | with_reducible exact agg24 | with_reducible exact agg25 | with_reducible exact agg26 | with_reducible exact agg28) (by (repeat (first | rw [List.length_set] | rw [nau_len] | rw [sub_len] | rw [spl_len])) <;> omega) ?_)) | ((with_reducible refine wpList_load_ia hI (by with_unfolding_all rfl) (by first | with_reducible exact mm0 | with_reducible exact mm1 | with_reducible exact mm2 | with_reducible exact mm3 | with_reducible exact mm4 | with_reducible exact mm5 | with_reducible exact mm6 | with_reducible exact mm7 | with_reducible exact mm8 | with_reducible exact mm9) (by first | with_reducible exact agg22 | with_reducible exact agg24 | with_reducible exact agg25 | with_reducible exact agg26 | with_reducible exact agg28) (by (repeat (first | rw [List.length_set] | rw [nau_len] | rw [sub_len] | rw [spl_len])) <;> omega) ?_)) | ((with_reducible refine wpList_load_i1 hI (by with_unfolding_all rfl) (by first | with_reducible exact mm0 | with_reducible exact mm1 | with_reducible exact mm2 | with_reducible exact mm3 | with_reducible exact mm4 | with_reducible exact mm5 | with_reducible exact mm6 | with_reducible exact mm7 | with_reducible exact mm8 | with_reducible exact mm9) (by first | with_reducible exact one3 | with_reducible exact one4 | with_reducible exact one31) (by (repeat (first | rw [List.length_set] | rw [nau_len] | rw [sub_len] | rw [spl_len])) <;> omega) ?_)) | ((with_reducible refine wpList_eq_ia  (by with_unfolding_all rfl) (by with_unfolding_all rfl) (by first | with_reducible exact agg22 | with_reducible exact agg24 | with_reducible exact agg25 | with_reducible exact agg26 | with_reducible exact agg28) (by first | with_reducible exact flatT22 | with_reducible exact flatT24 | with_reducible exact flatT25 | with_reducible exact flatT26 | with_reducible exact flatT28) (by (repeat (first | rw [List.length_set] | rw [nau_len] | rw [sub_len] | rw [spl_len])) <;> omega) (by (repeat (first | rw [List.length_set] | rw [nau_len] | rw [sub_len] | rw [spl_len])) <;> omega) ?_)) | ((with_reducible refine wpList_ne_ia  (by with_unfolding_all rfl) (by with_unfolding_all rfl) (by first | with_reducible exact agg22 | with_reducible exact agg24 | with_reducible exact agg25 | with_reducible exact agg26 | with_reducible exact agg28) (by first | with_reducible exact flatT22 | with_reducible exact flatT24 | with_reducible exact flatT25 | with_reducible exact flatT26 | with_reducible exact flatT28) (by (repeat (first | rw [List.length_set] | rw [nau_len] | rw [sub_len] | rw [spl_len])) <;> omega) (by (repeat (first | rw [List.length_set] | rw [nau_len] | rw [sub_len] | rw [spl_len])) <;> omega) ?_)) | fail | ((with_reducible refine wpList_box_ia hI (by with_unfolding_all rfl) ?_); clear hI; intro bx w hI) | (go_at_call 16; refine (fit04 _).mono ?_; rintro e w1 ⟨rfl, hw1⟩; replace hI := hI.call hw1; clear hw1) | (go_at_call 17; refine (lawRight_any _ _ (by assumption)).mono ?_; rintro e w1 ⟨rfl, hw1⟩; replace hI := hI.call hw1; clear hw1))
  (try simp only [Act.put, List.setIfInBounds_toArray, List.set_cons_succ, List.set_cons_zero])
  obtain ⟨b4, b3, e2, e1⟩ := nm2 hI
  subst e2 e1
  clear d1
  (refine wp_region_reg (C := fun w' => Inv _ _ w' _) [ ] (fun w' => Inv _ _ w' _) hI.drew (fun _ h => h) mixed (by kernel_rfl) ?_; clear hI; (repeat (first | ((with_reducible refine wpReg_skip (by with_unfolding_all rfl) ?_); simp only [Act.put, List.setIfInBounds_toArray, List.set_cons_succ, List.set_cons_zero]) | ((with_reducible apply wpReg_read); rfl; rfl; (focus ((intro w hI0; have hI : Inv _ _ w _ := hI0; clear hI0); go_wp2_with (first | ((with_reducible refine wpList_on  (by with_unfolding_all rfl) ?_)) | ((with_reducible refine wpList_load_iw hI (by with_unfolding_all rfl) (by first | with_reducible exact mm0 | with_reducible exact mm1 | with_reducible exact mm2 | with_reducible exact mm3 | with_reducible exact mm4 | with_reducible exact mm5 | with_reducible exact mm6 | with_reducible exact mm7 | with_reducible exact mm8 | with_reducible exact mm9) (by first | with_reducible exact agg22 | with_reducible exact agg24 | with_reducible exact agg25 | with_reducible exact agg26 | with_reducible exact agg28) (by (repeat (first | rw [List.length_set] | rw [nau_len] | rw [sub_len] | rw [spl_len])) <;> omega) ?_)) | ((with_reducible refine wpList_load_ia hI (by with_unfolding_all rfl) (by first | with_reducible exact mm0 | with_reducible exact mm1 | with_reducible exact mm2 | with_reducible exact mm3 | with_reducible exact mm4 | with_reducible exact mm5 | with_reducible exact mm6 | with_reducible exact mm7 | with_reducible exact mm8 | with_reducible exact mm9) (by first | with_reducible exact agg22 | with_reducible exact agg24 | with_reducible exact agg25 | with_reducible exact agg26 | with_reducible exact agg28) (by (repeat (first | rw [List.length_set] | rw [nau_len] | rw [sub_len] | rw [spl_len])) <;> omega) ?_)) | ((with_reducible refine wpList_load_i1 hI (by with_unfolding_all rfl) (by first | with_reducible exact mm0 | with_reducible exact mm1 | with_reducible exact mm2 | with_reducible exact mm3 | with_reducible exact mm4 | with_reducible exact mm5 | with_reducible exact mm6 | with_reducible exact mm7 | with_reducible exact mm8 | with_reducible exact mm9) (by first | with_reducible exact one3 | with_reducible exact one4 | with_reducible exact one31) (by (repeat (first | rw [List.length_set] | rw [nau_len] | rw [sub_len] | rw [spl_len])) <;> omega) ?_)) | ((with_reducible refine wpList_eq_ia  (by with_unfolding_all rfl) (by with_unfolding_all rfl) (by first | with_reducible exact agg22 | with_reducible exact agg24 | with_reducible exact agg25 | with_reducible exact agg26 | with_reducible exact agg28) (by first | with_reducible exact flatT22 | with_reducible exact flatT24 | with_reducible exact flatT25 | with_reducible exact flatT26 | with_reducible exact flatT28) (by (repeat (first | rw [List.length_set] | rw [nau_len] | rw [sub_len] | rw [spl_len])) <;> omega) (by (repeat (first | rw [List.length_set] | rw [nau_len] | rw [sub_len] | rw [spl_len])) <;> omega) ?_)) | ((with_reducible refine wpList_ne_ia  (by with_unfolding_all rfl) (by with_unfolding_all rfl) (by first | with_reducible exact agg22 | with_reducible exact agg24 | with_reducible exact agg25 | with_reducible exact agg26 | with_reducible exact agg28) (by first | with_reducible exact flatT22 | with_reducible exact flatT24 | with_reducible exact flatT25 | with_reducible exact flatT26 | with_reducible exact flatT28) (by (repeat (first | rw [List.length_set] | rw [nau_len] | rw [sub_len] | rw [spl_len])) <;> omega) (by (repeat (first | rw [List.length_set] | rw [nau_len] | rw [sub_len] | rw [spl_len])) <;> omega) ?_)) | fail | fail); (try simp only [Act.put, List.setIfInBounds_toArray, List.set_cons_succ, List.set_cons_zero]); exact ⟨rfl, rfl, hI⟩)); (first | exact ⟨_, rfl⟩ | exact ⟨undef, rfl⟩)) | ((with_reducible apply wpReg_pure); rfl; rfl; (focus (intro D w hD hE; have hI : Inv _ _ w _ := hE; (try simp only [List.eraseIdx_cons_succ, List.eraseIdx_cons_zero] at hI); go_wp2_with (first | ((with_reducible refine wpList_on  (by with_unfolding_all rfl) ?_)) | ((with_reducible refine wpList_load_iw hI (by with_unfolding_all rfl) (by first | with_reducible exact mm0 | with_reducible exact mm1 | with_reducible exact mm2 | with_reducible exact mm3 | with_reducible exact mm4 | with_reducible exact mm5 | with_reducible exact mm6 | with_reducible exact mm7 | with_reducible exact mm8 | with_reducible exact mm9) (by first | with_reducible exact agg22 | with_reducible exact agg24 | with_reducible exact agg25 | with_reducible exact agg26 | with_reducible exact agg28) (by (repeat (first | rw [List.length_set] | rw [nau_len] | rw [sub_len] | rw [spl_len])) <;> omega) ?_)) | ((with_reducible refine wpList_load_ia hI (by with_unfolding_all rfl) (by first | with_reducible exact mm0 | with_reducible exact mm1 | with_reducible exact mm2 | with_reducible exact mm3 | with_reducible exact mm4 | with_reducible exact mm5 | with_reducible exact mm6 | with_reducible exact mm7 | with_reducible exact mm8 | with_reducible exact mm9) (by first | with_reducible exact agg22 | with_reducible exact agg24 | with_reducible exact agg25 | with_reducible exact agg26 | with_reducible exact agg28) (by (repeat (first | rw [List.length_set] | rw [nau_len] | rw [sub_len] | rw [spl_len])) <;> omega) ?_)) | ((with_reducible refine wpList_load_i1 hI (by with_unfolding_all rfl) (by first | with_reducible exact mm0 | with_reducible exact mm1 | with_reducible exact mm2 | with_reducible exact mm3 | with_reducible exact mm4 | with_reducible exact mm5 | with_reducible exact mm6 | with_reducible exact mm7 | with_reducible exact mm8 | with_reducible exact mm9) (by first | with_reducible exact one3 | with_reducible exact one4 | with_reducible exact one31) (by (repeat (first | rw [List.length_set] | rw [nau_len] | rw [sub_len] | rw [spl_len])) <;> omega) ?_)) | ((with_reducible refine wpList_eq_ia  (by with_unfolding_all rfl) (by with_unfolding_all rfl) (by first | with_reducible exact agg22 | with_reducible exact agg24 | with_reducible exact agg25 | with_reducible exact agg26 | with_reducible exact agg28) (by first | with_reducible exact flatT22 | with_reducible exact flatT24 | with_reducible exact flatT25 | with_reducible exact flatT26 | with_reducible exact flatT28) (by (repeat (first | rw [List.length_set] | rw [nau_len] | rw [sub_len] | rw [spl_len])) <;> omega) (by (repeat (first | rw [List.length_set] | rw [nau_len] | rw [sub_len] | rw [spl_len])) <;> omega) ?_)) | ((with_reducible refine wpList_ne_ia  (by with_unfolding_all rfl) (by with_unfolding_all rfl) (by first | with_reducible exact agg22 | with_reducible exact agg24 | with_reducible exact agg25 | with_reducible exact agg26 | with_reducible exact agg28) (by first | with_reducible exact flatT22 | with_reducible exact flatT24 | with_reducible exact flatT25 | with_reducible exact flatT26 | with_reducible exact flatT28) (by (repeat (first | rw [List.length_set] | rw [nau_len] | rw [sub_len] | rw [spl_len])) <;> omega) (by (repeat (first | rw [List.length_set] | rw [nau_len] | rw [sub_len] | rw [spl_len])) <;> omega) ?_)) | fail); (try simp only [Act.put, List.setIfInBounds_toArray, List.set_cons_succ, List.set_cons_zero]); exact ⟨rfl, rfl, hD⟩)); (first | exact ⟨_, rfl⟩ | exact ⟨undef, rfl⟩)))); ((with_reducible refine wpReg_nil ?_); intro w hI0; have hI : Inv _ _ w _ := hI0; clear hI0))
  (try simp only [Act.put, List.setIfInBounds_toArray, List.set_cons_succ, List.set_cons_zero])
  generalize gi how 0 = key at *
  generalize gi how 1 = tt at *
  go_upto_region 8 with (first | ((with_reducible refine wpList_on  (by with_unfolding_all rfl) ?_)) | ((with_reducible refine wpList_load_iw hI (by with_unfolding_all rfl) (by first | with_reducible exact mm0 | with_reducible exact mm1 | with_reducible exact mm2 | with_reducible exact mm3 | with_reducible exact mm4 | with_reducible exact mm5 | with_reducible exact mm6 | with_reducible exact mm7 | with_reducible exact mm8 | with_reducible exact mm9) (by first | with_reducible exact agg22 | with_reducible exact agg24 | with_reducible exact agg25 | with_reducible exact agg26 | with_reducible exact agg28) (by (repeat (first | rw [List.length_set] | rw [nau_len] | rw [sub_len] | rw [spl_len])) <;> omega) ?_)) | ((with_reducible refine wpList_load_ia hI (by with_unfolding_all rfl) (by first | with_reducible exact mm0 | with_reducible exact mm1 | with_reducible exact mm2 | with_reducible exact mm3 | with_reducible exact mm4 | with_reducible exact mm5 | with_reducible exact mm6 | with_reducible exact mm7 | with_reducible exact mm8 | with_reducible exact mm9) (by first | with_reducible exact agg22 | with_reducible exact agg24 | with_reducible exact agg25 | with_reducible exact agg26 | with_reducible exact agg28) (by (repeat (first | rw [List.length_set] | rw [nau_len] | rw [sub_len] | rw [spl_len])) <;> omega) ?_)) | ((with_reducible refine wpList_load_i1 hI (by with_unfolding_all rfl) (by first | with_reducible exact mm0 | with_reducible exact mm1 | with_reducible exact mm2 | with_reducible exact mm3 | with_reducible exact mm4 | with_reducible exact mm5 | with_reducible exact mm6 | with_reducible exact mm7 | with_reducible exact mm8 | with_reducible exact mm9) (by first | with_reducible exact one3 | with_reducible exact one4 | with_reducible exact one31) (by (repeat (first | rw [List.length_set] | rw [nau_len] | rw [sub_len] | rw [spl_len])) <;> omega) ?_)) | ((with_reducible refine wpList_eq_ia  (by with_unfolding_all rfl) (by with_unfolding_all rfl) (by first | with_reducible exact agg22 | with_reducible exact agg24 | with_reducible exact agg25 | with_reducible exact agg26 | with_reducible exact agg28) (by first | with_reducible exact flatT22 | with_reducible exact flatT24 | with_reducible exact flatT25 | with_reducible exact flatT26 | with_reducible exact flatT28) (by (repeat (first | rw [List.length_set] | rw [nau_len] | rw [sub_len] | rw [spl_len])) <;> omega) (by (repeat (first | rw [List.length_set] | rw [nau_len] | rw [sub_len] | rw [spl_len])) <;> omega) ?_)) | ((with_reducible refine wpList_ne_ia  (by with_unfolding_all rfl) (by with_unfolding_all rfl) (by first | with_reducible exact agg22 | with_reducible exact agg24 | with_reducible exact agg25 | with_reducible exact agg26 | with_reducible exact agg28) (by first | with_reducible exact flatT22 | with_reducible exact flatT24 | with_reducible exact flatT25 | with_reducible exact flatT26 | with_reducible exact flatT28) (by (repeat (first | rw [List.length_set] | rw [nau_len] | rw [sub_len] | rw [spl_len])) <;> omega) (by (repeat (first | rw [List.length_set] | rw [nau_len] | rw [sub_len] | rw [spl_len])) <;> omega) ?_)) | fail | ((with_reducible refine wpList_alloc_ia hI (by first | with_reducible exact zi22 | with_reducible exact zi24 | with_reducible exact zi25 | with_reducible exact zi26 | with_reducible exact zi28) ?_); clear hI; intro bx w hI) | ((with_reducible refine wpList_store_iw hI (by with_unfolding_all rfl) (by with_unfolding_all rfl) (by first | with_reducible exact uu0 | with_reducible exact uu1 | with_reducible exact uu2 | with_reducible exact uu3 | with_reducible exact uu4 | with_reducible exact uu5 | with_reducible exact uu6 | with_reducible exact uu7 | with_reducible exact uu8 | with_reducible exact uu9) (by first | with_reducible exact agg22 | with_reducible exact agg24 | with_reducible exact agg25 | with_reducible exact agg26 | with_reducible exact agg28) (by (repeat (first | rw [List.length_set] | rw [nau_len] | rw [sub_len] | rw [spl_len])) <;> omega) (by (repeat (first | rw [List.length_set] | rw [nau_len] | rw [sub_len] | rw [spl_len])) <;> omega) ?_); clear hI; intro w hI))
  (try simp only [Act.put, List.setIfInBounds_toArray, List.set_cons_succ, List.set_cons_zero])
  (obtain ⟨b9, hbx⟩ : ∃ b, b = bx := ⟨_, rfl⟩; subst hbx)
  replace hI : Inv [] w0 _ [ib b9 28 x, ib b3 28 x] := hI.sub (.cons_cons _ (.cons _ (.refl _)))
  go_cut [11] (fun u wx => ∃ k : Int, u = .int .i64 k ∧ Hid (k = 1) ∧ Inv [] w0 wx [ib b9 28 x, ib b3 28 x])
  case first =>
    go_wp2_with fail
    go_meet
    case rel =>
      exact ⟨_, rfl, hq0, hI⟩
  case rest =>
    clear hI
    obtain ⟨k, rfl, hk, hI⟩ := hcut
    go_upto_region 9 with fail
    go_cut [2] (fun u wx => ∃ n : Int, u = .int .i64 n ∧ Inv [] w0 wx [ib b9 28 x, ib b3 28 x])
    case first =>
      go_wp2_with fail
      go_meet
      case rel => exact ⟨_, rfl, hI⟩
    case rest =>
      clear hI
      obtain ⟨n, rfl, hI⟩ := hcut
      go_upto_region 10 with fail
      go_cut [12] (fun u wx => ∃ q : Bool, u = .bool q ∧ Hid (q = decide (0 ≤ key ∧ key < 4)) ∧ Inv [] w0 wx [ib b9 28 x, ib b3 28 x])
      case first =>
        by_cases h1 : 0 ≤ key
        · by_cases h2 : key < 4
          · go_wp2_with fail
            go_meet
            case rel => exact ⟨_, rfl, Lib.hid (by first | exact (decide_eq_true (by omega)).symm | exact (decide_eq_false (by omega)).symm), hI⟩
          · go_wp2_with fail
            go_meet
            case rel => exact ⟨_, rfl, Lib.hid (by first | exact (decide_eq_true (by omega)).symm | exact (decide_eq_false (by omega)).symm), hI⟩
        · go_wp2_with fail
          go_meet
          case rel => exact ⟨_, rfl, Lib.hid (by first | exact (decide_eq_true (by omega)).symm | exact (decide_eq_false (by omega)).symm), hI⟩
      case rest =>
        clear hI
        obtain ⟨ins, rfl, hins, hI⟩ := hcut
        go_upto_region 11 with fail
        go_cut [13] (fun u wx => ∃ q : Bool, u = .bool q ∧ Hid (q = decide (1 ≤ n ∧ n ≤ 1099511627776)) ∧ Inv [] w0 wx [ib b9 28 x, ib b3 28 x])
        case first =>
          by_cases h1 : 1 ≤ n
          · by_cases h2 : n ≤ 1099511627776
            · go_wp2_with fail
              go_meet
              case rel => exact ⟨_, rfl, Lib.hid (by first | exact (decide_eq_true (by omega)).symm | exact (decide_eq_false (by omega)).symm), hI⟩
            · go_wp2_with fail
              go_meet
              case rel => exact ⟨_, rfl, Lib.hid (by first | exact (decide_eq_true (by omega)).symm | exact (decide_eq_false (by omega)).symm), hI⟩
          · go_wp2_with fail
            go_meet
            case rel => exact ⟨_, rfl, Lib.hid (by first | exact (decide_eq_true (by omega)).symm | exact (decide_eq_false (by omega)).symm), hI⟩
        case rest =>
          clear hI
          obtain ⟨fit, rfl, hfit, hI⟩ := hcut
          have hask : Hid (askedB key n = (ins && fit)) := Lib.hid (by rw [hins.out, hfit.out, insB_eq])
          go_upto_block 0 with fail
          go_cut [10, 14, 16] (fun u v g wx => ∃ (e tot : Int) (want : List Int), u = .int .i64 e ∧ v = .int .i64 tot ∧ want.length = 174 ∧ gi want 0 = gi x 0 ∧ Hid ((e = 5 ∧ chgF k x key n tt = (nau 174, 5)) ∨ (e = 0 ∧ chgF k x key n tt = if 1099511627776 < tot then (nau 174, 6) else (want.set 0 (gi x 0 + 1), 0))) ∧ Inv [] w0 wx [ib b9 28 want, ib b3 28 x])
          case first =>
            go_upto_region 19 with fail
            go_cut [76] (fun u wx => ∃ q : Bool, u = .bool q ∧ Hid (q = (decide (k = 2) && !machB tt)) ∧ Inv [] w0 wx [ib b9 28 x, ib b3 28 x])
            case first =>
              clear hins hfit hask hw hr
              have hk' := hk.out
              subst hk'
              · go_wp2_with fail
                go_meet
                case rel => exact ⟨_, rfl, Lib.hid rfl, hI⟩
            case rest =>
            clear hI
            obtain ⟨q, rfl, hq, hI⟩ := hcut
            go_upto_if 76 with fail
            go_cut [76] (fun u wx => ∃ c : Bool, u = .bool c ∧ Hid (c = (q || !ins || !fit)) ∧ Inv [] w0 wx [ib b9 28 x, ib b3 28 x])
            case first =>
              clear hins hfit hask hw hr hq
              cases q
              · cases ins
                · go_wp2_with fail
                  go_meet
                  case rel => exact ⟨_, rfl, Lib.hid rfl, hI⟩
                · go_wp2_with fail
                  go_meet
                  case rel => exact ⟨_, rfl, Lib.hid rfl, hI⟩
              · go_wp2_with fail
                go_meet
                case rel => exact ⟨_, rfl, Lib.hid rfl, hI⟩
            case rest =>
            clear hI
            obtain ⟨c, rfl, hc, hI⟩ := hcut
            have hg0 : ∀ i u, 0 < i → gi (x.set i u) 0 = gi x 0 := fun i u h => by rw [gi_set, if_neg (by omega)]
            cases c
            case true =>
              have hf : Hid (chgF k x key n tt = (nau 174, 5)) := Lib.hid (by
                have h1 := hc.out
                by_cases ha : askedB key n = true
                · rw [hask.out] at ha
                  have hq1 : q = true := by revert h1 ha; cases q <;> cases ins <;> cases fit <;> simp
                  have h2 := hq.out
                  rw [hq1] at h2
                  have h3 : k = 2 ∧ machB tt = false := by simpa using h2.symm
                  unfold chgF giveF
                  rw [h3.1, h3.2]; simp
                · unfold chgF putF giveF
                  simp [ha])
              clear hw hins hfit hask hg0 hr hc hq
              go_wp2_with fail
              go_meet
              case rel => exact ⟨_, _, x, rfl, rfl, hx, rfl, Lib.hid (.inl ⟨rfl, hf.out⟩), hI⟩
            have hqf : q = false ∧ ins = true ∧ fit = true := by
              have h1 := hc.out
              revert h1; cases q <;> cases ins <;> cases fit <;> simp
            have ha : Hid (askedB key n = true) := Lib.hid (by rw [hask.out, hqf.2.1, hqf.2.2]; rfl)
            have hmt : Hid (k = 2 → machB tt = true) := Lib.hid (by
              intro h2
              have h1 := hq.out
              rw [hqf.1, h2] at h1
              simpa using h1.symm)
            obtain ⟨k0, k4, n1, n2⟩ := asked_of ha.out
            obtain ⟨⟨c0, c1⟩, ⟨c2, c3⟩, hg, hs⟩ := row_cell hr key.toNat (by omega)
            clear hins hfit hask hr hqf hc hq
            have hk' := hk.out
            subst hk'
            · clear hg hs hmt hw
              go_wp2_with (first | ((with_reducible refine wpList_on  (by with_unfolding_all rfl) ?_)) | ((with_reducible refine wpList_load_iw hI (by with_unfolding_all rfl) (by first | with_reducible exact mm0 | with_reducible exact mm1 | with_reducible exact mm2 | with_reducible exact mm3 | with_reducible exact mm4 | with_reducible exact mm5 | with_reducible exact mm6 | with_reducible exact mm7 | with_reducible exact mm8 | with_reducible exact mm9) (by first | with_reducible exact agg22 | with_reducible exact agg24 | with_reducible exact agg25 | with_reducible exact agg26 | with_reducible exact agg28) (by (repeat (first | rw [List.length_set] | rw [nau_len] | rw [sub_len] | rw [spl_len])) <;> omega) ?_)) | ((with_reducible refine wpList_load_ia hI (by with_unfolding_all rfl) (by first | with_reducible exact mm0 | with_reducible exact mm1 | with_reducible exact mm2 | with_reducible exact mm3 | with_reducible exact mm4 | with_reducible exact mm5 | with_reducible exact mm6 | with_reducible exact mm7 | with_reducible exact mm8 | with_reducible exact mm9) (by first | with_reducible exact agg22 | with_reducible exact agg24 | with_reducible exact agg25 | with_reducible exact agg26 | with_reducible exact agg28) (by (repeat (first | rw [List.length_set] | rw [nau_len] | rw [sub_len] | rw [spl_len])) <;> omega) ?_)) | ((with_reducible refine wpList_load_i1 hI (by with_unfolding_all rfl) (by first | with_reducible exact mm0 | with_reducible exact mm1 | with_reducible exact mm2 | with_reducible exact mm3 | with_reducible exact mm4 | with_reducible exact mm5 | with_reducible exact mm6 | with_reducible exact mm7 | with_reducible exact mm8 | with_reducible exact mm9) (by first | with_reducible exact one3 | with_reducible exact one4 | with_reducible exact one31) (by (repeat (first | rw [List.length_set] | rw [nau_len] | rw [sub_len] | rw [spl_len])) <;> omega) ?_)) | ((with_reducible refine wpList_eq_ia  (by with_unfolding_all rfl) (by with_unfolding_all rfl) (by first | with_reducible exact agg22 | with_reducible exact agg24 | with_reducible exact agg25 | with_reducible exact agg26 | with_reducible exact agg28) (by first | with_reducible exact flatT22 | with_reducible exact flatT24 | with_reducible exact flatT25 | with_reducible exact flatT26 | with_reducible exact flatT28) (by (repeat (first | rw [List.length_set] | rw [nau_len] | rw [sub_len] | rw [spl_len])) <;> omega) (by (repeat (first | rw [List.length_set] | rw [nau_len] | rw [sub_len] | rw [spl_len])) <;> omega) ?_)) | ((with_reducible refine wpList_ne_ia  (by with_unfolding_all rfl) (by with_unfolding_all rfl) (by first | with_reducible exact agg22 | with_reducible exact agg24 | with_reducible exact agg25 | with_reducible exact agg26 | with_reducible exact agg28) (by first | with_reducible exact flatT22 | with_reducible exact flatT24 | with_reducible exact flatT25 | with_reducible exact flatT26 | with_reducible exact flatT28) (by (repeat (first | rw [List.length_set] | rw [nau_len] | rw [sub_len] | rw [spl_len])) <;> omega) (by (repeat (first | rw [List.length_set] | rw [nau_len] | rw [sub_len] | rw [spl_len])) <;> omega) ?_)) | fail | ((with_reducible refine wpList_store_iw hI (by with_unfolding_all rfl) (by with_unfolding_all rfl) (by first | with_reducible exact uu0 | with_reducible exact uu1 | with_reducible exact uu2 | with_reducible exact uu3 | with_reducible exact uu4 | with_reducible exact uu5 | with_reducible exact uu6 | with_reducible exact uu7 | with_reducible exact uu8 | with_reducible exact uu9) (by first | with_reducible exact agg22 | with_reducible exact agg24 | with_reducible exact agg25 | with_reducible exact agg26 | with_reducible exact agg28) (by (repeat (first | rw [List.length_set] | rw [nau_len] | rw [sub_len] | rw [spl_len])) <;> omega) (by (repeat (first | rw [List.length_set] | rw [nau_len] | rw [sub_len] | rw [spl_len])) <;> omega) ?_); clear hI; intro w hI) | ((with_reducible refine wpList_store_ia hI (by with_unfolding_all rfl) (by with_unfolding_all rfl) (by first | with_reducible exact uu0 | with_reducible exact uu1 | with_reducible exact uu2 | with_reducible exact uu3 | with_reducible exact uu4 | with_reducible exact uu5 | with_reducible exact uu6 | with_reducible exact uu7 | with_reducible exact uu8 | with_reducible exact uu9) (by first | with_reducible exact agg22 | with_reducible exact agg24 | with_reducible exact agg25 | with_reducible exact agg26 | with_reducible exact agg28) (by (repeat (first | rw [List.length_set] | rw [nau_len] | rw [sub_len] | rw [spl_len])) <;> omega) (by (repeat (first | rw [List.length_set] | rw [nau_len] | rw [sub_len] | rw [spl_len])) <;> omega) ?_); clear hI; intro w hI) | ((with_reducible refine wpList_store_i1 hI (by with_unfolding_all rfl) (by with_unfolding_all rfl) (by first | with_reducible exact uu0 | with_reducible exact uu1 | with_reducible exact uu2 | with_reducible exact uu3 | with_reducible exact uu4 | with_reducible exact uu5 | with_reducible exact uu6 | with_reducible exact uu7 | with_reducible exact uu8 | with_reducible exact uu9) (by first | with_reducible exact one3 | with_reducible exact one4 | with_reducible exact one31) (by (repeat (first | rw [List.length_set] | rw [nau_len] | rw [sub_len] | rw [spl_len])) <;> omega) ?_); clear hI; intro w hI) | fail)
              go_meet
              case rel =>
                refine ⟨_, _, _, rfl, rfl, ?_, ?_, Lib.hid (.inr ⟨rfl, ?_⟩), hI⟩
                · rw [List.length_set]; exact hx
                · exact hg0 _ _ (by omega)
                · unfold chgF putF
                  rw [if_neg (by decide), if_pos rfl, if_pos ha.out, gi_same _ _ _ (by omega)]
                  by_cases hgt : 1099511627776 - n < gi x (1 + key.toNat * 7 + 1)
                  · rw [if_pos hgt, if_pos (by omega)]
                  · rw [if_neg hgt, if_neg (by omega)]; rfl
          case rest =>
            rename_i hK
            clear hI hins hfit hask
            obtain ⟨e, tot, want, rfl, rfl, wl, w00, hc, hI⟩ := hcut
            refine hK _ _ ?_
            exact chg_tail (fun act w hd ht hB => bodyPost_ret (results_tmp rfl _ _ _) hd ⟨by rw [ht], hB⟩) hx hr hw hv0 hv2 hv1 (by rw [hk.out]; decide) wl w00 hc hI
end Go.Proofs.Ythncfjfgjdeajaa
