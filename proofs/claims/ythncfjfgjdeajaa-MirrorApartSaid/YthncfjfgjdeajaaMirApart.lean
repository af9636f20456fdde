/-
  The law MirrorApart. No condition.
-/
import Derived.Test.YthncfjfgjdeajaaMirFit
import Derived.Test.YthncfjfgjdeajaaRow6
import Derived.Test.YthncfjfgjdeajaaIArg
import Derived.Test.YthncfjfgjdeajaaBuild1
namespace Go.Proofs.Ythncfjfgjdeajaa
open Go.RowKit
theorem zi52 : ZeroI Try.prog 52 176 := by unfold ZeroI; kernel_rfl
theorem fld28 : FieldT Try.prog 28 0 0 := ⟨Try.prog.fieldsOf 28, by kernel_rfl, by kernel_rfl, by kernel_rfl⟩
theorem rowOf_spl (zs x : List Int) (w k : Int) (hz : zs.length = 870) (hx : x.length = 174) (hw : machB w = true) : rowOf (spl zs (w.toNat * 174) x) k = if k = w then x else rowOf zs k := by
  obtain ⟨h0, h5⟩ := mach_of hw
  unfold rowOf
  by_cases hk : machB k = true
  · obtain ⟨k0, k5⟩ := mach_of hk
    rw [if_pos hk, if_pos hk]
    by_cases he : k = w
    · subst he
      rw [if_pos rfl]
      have := sub_spl_same zs x (k.toNat * 174) (by omega)
      rwa [hx] at this
    · rw [if_neg he]
      exact sub_spl_other _ _ _ _ _ (by omega) (by omega)
  · rw [if_neg hk, if_neg hk, if_neg (by rintro rfl; exact hk hw)]
theorem rowOf_keepZ (zs : List Int) (bs : List Bool) (w k : Int) (x : List Int) (hz : zs.length = 870) (hx : x.length = 174) : rowOf (keepZ zs bs w x) k = if keepB zs bs w x = true ∧ k = w then x else rowOf zs k := by
  unfold keepZ
  by_cases h : keepB zs bs w x = true
  · rw [if_pos h, rowOf_spl zs x w k hz hx (keepB_mach h)]
    simp [h]
  · rw [if_neg h, if_neg (fun hh => h hh.1)]
set_option maxRecDepth 100000 in
set_option maxHeartbeats 6400000 in
theorem mapart_walk (w0 : World) (x : List Int) (who : Int) (a : Option Addr) (len c : Nat) (row : Nat → List Int) (hx : x.length = 174) (hwx : Wf x) (h : IArg w0 a len 176 row) :
    Calls Try.prog 10 #[ia x, .int .i64 who, .slice a len c] w0 fun e w' => e = .returned (.bool true) ∧ Below w0.heap.size w0 w' := by
  have hI := Inv.start w0
  have hn := nau_len 174
  have hz := nau_len 870
  have hb5 : (List.replicate 5 false).length = 5 := rfl
  have hxr := (hwx 0).2
  clear hwx
  have l0 := h.reach
  by_cases hbig : 60 < len
  · have hb : (60 : Int) < (len : Int) := by omega
    clear h
    go_enter Try.func10, Try.ntmps10
    go_wp2_with (first | ((with_reducible refine wpList_on  (by with_unfolding_all rfl) ?_)) | ((with_reducible refine wpList_box_ia hI (by with_unfolding_all rfl) ?_); clear hI; intro bx w hI) | (go_at_call 25; refine (fit14 _).mono ?_; rintro e w1 ⟨rfl, hw1⟩; replace hI := hI.call hw1; clear hw1))
    go_ret
    exact ⟨rfl, hI.below⟩
  have hb : (len : Int) ≤ 60 := by omega
  have hb2 : decide ((60 : Int) < (len : Int)) = false := by simp; omega
  cases hr : rowB x
  · clear h
    go_enter Try.func10, Try.ntmps10
    go_wp2_with (first | ((with_reducible refine wpList_on  (by with_unfolding_all rfl) ?_)) | ((with_reducible refine wpList_load_iw hI (by with_unfolding_all rfl) (by first | with_reducible exact mm0 | with_reducible exact mm1 | with_reducible exact mm2 | with_reducible exact mm3 | with_reducible exact mm4 | with_reducible exact mm5 | with_reducible exact mm6 | with_reducible exact mm7 | with_reducible exact mm8 | with_reducible exact mm9) (by first | with_reducible exact agg22 | with_reducible exact agg24 | with_reducible exact agg25 | with_reducible exact agg26 | with_reducible exact agg28 | with_reducible exact agg52) (by (repeat (first | rw [List.length_set] | rw [nau_len] | rw [sub_len] | rw [spl_len])) <;> omega) ?_)) | ((with_reducible refine wpList_box_ia hI (by with_unfolding_all rfl) ?_); clear hI; intro bx w hI) | (go_at_call 25; refine (fit14 _).mono ?_; rintro e w1 ⟨rfl, hw1⟩; replace hI := hI.call hw1; clear hw1) | (go_at_call 17; refine (lawRight_any _ _ (by assumption)).mono ?_; rintro e w1 ⟨rfl, hw1⟩; replace hI := hI.call hw1; clear hw1))
    go_ret
    exact ⟨rfl, hI.below⟩
  cases hv : decide (gi x 0 < 1)
  case true =>
    clear h
    go_enter Try.func10, Try.ntmps10
    go_wp2_with (first | ((with_reducible refine wpList_on  (by with_unfolding_all rfl) ?_)) | ((with_reducible refine wpList_load_iw hI (by with_unfolding_all rfl) (by first | with_reducible exact mm0 | with_reducible exact mm1 | with_reducible exact mm2 | with_reducible exact mm3 | with_reducible exact mm4 | with_reducible exact mm5 | with_reducible exact mm6 | with_reducible exact mm7 | with_reducible exact mm8 | with_reducible exact mm9) (by first | with_reducible exact agg22 | with_reducible exact agg24 | with_reducible exact agg25 | with_reducible exact agg26 | with_reducible exact agg28 | with_reducible exact agg52) (by (repeat (first | rw [List.length_set] | rw [nau_len] | rw [sub_len] | rw [spl_len])) <;> omega) ?_)) | ((with_reducible refine wpList_load_i1 hI (by with_unfolding_all rfl) (by first | with_reducible exact mm0 | with_reducible exact mm1 | with_reducible exact mm2 | with_reducible exact mm3 | with_reducible exact mm4 | with_reducible exact mm5 | with_reducible exact mm6 | with_reducible exact mm7 | with_reducible exact mm8 | with_reducible exact mm9) (by first | with_reducible exact one3 | with_reducible exact one4 | with_reducible exact one31) (by (repeat (first | rw [List.length_set] | rw [nau_len] | rw [sub_len] | rw [spl_len])) <;> omega) ?_)) | ((with_reducible refine wpList_box_ia hI (by with_unfolding_all rfl) ?_); clear hI; intro bx w hI) | (go_at_call 25; refine (fit14 _).mono ?_; rintro e w1 ⟨rfl, hw1⟩; replace hI := hI.call hw1; clear hw1) | (go_at_call 17; refine (lawRight_any _ _ (by assumption)).mono ?_; rintro e w1 ⟨rfl, hw1⟩; replace hI := hI.call hw1; clear hw1))
    go_ret
    exact ⟨rfl, hI.below⟩
  have hv1 : 1 ≤ gi x 0 := by simp at hv; omega
  go_enter Try.func10, Try.ntmps10
  go_upto_region 5 with (first | ((with_reducible refine wpList_on  (by with_unfolding_all rfl) ?_)) | ((with_reducible refine wpList_load_iw hI (by with_unfolding_all rfl) (by first | with_reducible exact mm0 | with_reducible exact mm1 | with_reducible exact mm2 | with_reducible exact mm3 | with_reducible exact mm4 | with_reducible exact mm5 | with_reducible exact mm6 | with_reducible exact mm7 | with_reducible exact mm8 | with_reducible exact mm9) (by first | with_reducible exact agg22 | with_reducible exact agg24 | with_reducible exact agg25 | with_reducible exact agg26 | with_reducible exact agg28 | with_reducible exact agg52) (by (repeat (first | rw [List.length_set] | rw [nau_len] | rw [sub_len] | rw [spl_len])) <;> omega) ?_)) | ((with_reducible refine wpList_load_i1 hI (by with_unfolding_all rfl) (by first | with_reducible exact mm0 | with_reducible exact mm1 | with_reducible exact mm2 | with_reducible exact mm3 | with_reducible exact mm4 | with_reducible exact mm5 | with_reducible exact mm6 | with_reducible exact mm7 | with_reducible exact mm8 | with_reducible exact mm9) (by first | with_reducible exact one3 | with_reducible exact one4 | with_reducible exact one31) (by (repeat (first | rw [List.length_set] | rw [nau_len] | rw [sub_len] | rw [spl_len])) <;> omega) ?_)) | ((with_reducible refine wpList_box_ia hI (by with_unfolding_all rfl) ?_); clear hI; intro bx w hI) | (go_at_call 25; refine (fit14 _).mono ?_; rintro e w1 ⟨rfl, hw1⟩; replace hI := hI.call hw1; clear hw1) | (go_at_call 17; refine (lawRight_any _ _ (by assumption)).mono ?_; rintro e w1 ⟨rfl, hw1⟩; replace hI := hI.call hw1; clear hw1))
  (try simp only [Act.put, List.setIfInBounds_toArray, List.set_cons_succ, List.set_cons_zero])
  (obtain ⟨b3, hbx⟩ : ∃ b, b = bx := ⟨_, rfl⟩; subst hbx)
  go_cut [1] (fun u wx => ∃ k : Int, u = .int .i64 k ∧ machB k = true ∧ Inv [] w0 wx [ib b3 28 x])
  case first =>
    go_wp2_with fail
    go_meet
    case rel =>
      refine ⟨_, rfl, ?_, hI⟩
      have hk := and_range who 255 (by decide)
      simp at hk
      generalize bits BinOp.and IntKind.i64 who 255 = q at *
      have e : q.tmod 5 = q % 5 := Int.tmod_eq_emod_of_nonneg hk.1
      rw [e]
      simp [machB]; omega
  case rest =>
  clear hI
  obtain ⟨k, rfl, hm, hI⟩ := hcut
  obtain ⟨k0, k5⟩ := mach_of hm
  have k1 : Hid (keepB (nau 870) (List.replicate 5 false) k x = true) := Lib.hid (by
    unfold keepB
    have h1 : gb (List.replicate 5 false) k.toNat = false := by
      unfold gb
      rw [List.getD_eq_getElem?_getD, List.getElem?_replicate]
      split <;> rfl
    rw [hm, h1, hr, gi_nau]
    simp; omega)
  have hzl := keepZ_len (nau 870) (List.replicate 5 false) k x hz hx
  have hro : rowOf (keepZ (nau 870) (List.replicate 5 false) k x) k = x := by rw [rowOf_keepZ _ _ _ _ _ hz hx, if_pos ⟨k1.out, rfl⟩]
  go_upto_region 7 with (first | ((with_reducible refine wpList_alloc_m hI (by first | with_reducible exact zm50) ?_); clear hI; intro bx w hI))
  (try simp only [Act.put, List.setIfInBounds_toArray, List.set_cons_succ, List.set_cons_zero])
  (obtain ⟨b7, hbx⟩ : ∃ b, b = bx := ⟨_, rfl⟩; subst hbx)
  go_upto_region 9 with (first | ((with_reducible refine wpList_load_iw hI (by with_unfolding_all rfl) (by first | with_reducible exact mm0 | with_reducible exact mm1 | with_reducible exact mm2 | with_reducible exact mm3 | with_reducible exact mm4 | with_reducible exact mm5 | with_reducible exact mm6 | with_reducible exact mm7 | with_reducible exact mm8 | with_reducible exact mm9) (by first | with_reducible exact agg22 | with_reducible exact agg24 | with_reducible exact agg25 | with_reducible exact agg26 | with_reducible exact agg28 | with_reducible exact agg52) (by (repeat (first | rw [List.length_set] | rw [nau_len] | rw [sub_len] | rw [spl_len])) <;> omega) ?_)) | (go_at_call 28; (with_reducible refine (mkeep_any _ b7 50 (nau 870) (List.replicate 5 false) hz hb5 (hI.mbk (by (first | with_reducible exact mm0 | with_reducible exact mm1 | with_reducible exact mm2 | with_reducible exact mm3 | with_reducible exact mm4 | with_reducible exact mm5 | with_reducible exact mm6 | with_reducible exact mm7 | with_reducible exact mm8 | with_reducible exact mm9))) k x hx).mono ?_); rw [k1.out]; rintro e w1 ⟨rfl, hst, hbk⟩; replace hI := hI.mcall (by (first | with_reducible exact uu0 | with_reducible exact uu1 | with_reducible exact uu2 | with_reducible exact uu3 | with_reducible exact uu4 | with_reducible exact uu5 | with_reducible exact uu6 | with_reducible exact uu7 | with_reducible exact uu8 | with_reducible exact uu9)) hst hbk; clear hst hbk))
  (try simp only [Act.put, List.setIfInBounds_toArray, List.set_cons_succ, List.set_cons_zero])
  replace k1 := k1.out
  generalize keepZ (nau 870) (List.replicate 5 false) k x = Z0 at *
  clear k1
  replace hro := Lib.hid hro
  go_wp2_with fail
  go_loopg [9, 36] len (fun kk p i wr => ∃ (j : Nat) (zs : List Int) (bs : List Bool), kk = len - j ∧ j ≤ len ∧ i = .int .i64 j ∧ zs.length = 870 ∧ bs.length = 5 ∧ Hid (rowOf zs k = x) ∧ Inv [] w0 wr [ibb b7 50 zs bs, ib b3 28 x])
  case atStart => exact ⟨0, Z0, _, by omega, by omega, rfl, hzl, hb5, hro, hI⟩
  case round =>
    clear hI hzl hro
    obtain ⟨j, zs, bs, rfl, hj, rfl, lz, lb, hrow, hI⟩ := hrel
    by_cases hlj : j < len
    · obtain ⟨hcl, hcr, bq, off, rfl, hcell⟩ := h.row j hlj
      have hl3 : ((row j).map (Value.int .i64)).length = 176 := by simpa using hcl
      have hagg : AggT Try.prog 52 ((row j).map (Value.int .i64)).length := by rw [hl3]; exact agg52
      have hsl : (sub (row j) 2 174).length = 174 := by rw [sub_len]; omega
      clear h hcr
      generalize row j = r at *
      by_cases hwk : gi r 1 = k
      · have hw1 : (gi r 1 == k) = true := by simp [hwk]
        clear hwk
        go_wp2_with (first | ((with_reducible refine wpList_on  (by with_unfolding_all rfl) ?_)) | (with_reducible refine wpList_load_arg hI (by with_unfolding_all rfl) hcell (by simp) (by with_unfolding_all exact hagg) ?_) | ((with_reducible refine wpList_alloc_ia hI (by first | with_reducible exact zi22 | with_reducible exact zi24 | with_reducible exact zi25 | with_reducible exact zi26 | with_reducible exact zi28 | with_reducible exact zi52) ?_); clear hI; intro bx w hI) | ((with_reducible refine wpList_store_iw hI (by with_unfolding_all rfl) (by with_unfolding_all rfl) (by first | with_reducible exact uu0 | with_reducible exact uu1 | with_reducible exact uu2 | with_reducible exact uu3 | with_reducible exact uu4 | with_reducible exact uu5 | with_reducible exact uu6 | with_reducible exact uu7 | with_reducible exact uu8 | with_reducible exact uu9) (by first | with_reducible exact agg22 | with_reducible exact agg24 | with_reducible exact agg25 | with_reducible exact agg26 | with_reducible exact agg28 | with_reducible exact agg52) (by (repeat (first | rw [List.length_set] | rw [nau_len] | rw [sub_len] | rw [spl_len])) <;> omega) (by (repeat (first | rw [List.length_set] | rw [nau_len] | rw [sub_len] | rw [spl_len])) <;> omega) ?_); clear hI; intro w hI) | ((with_reducible refine wpList_load_i1 hI (by with_unfolding_all rfl) (by first | with_reducible exact mm0 | with_reducible exact mm1 | with_reducible exact mm2 | with_reducible exact mm3 | with_reducible exact mm4 | with_reducible exact mm5 | with_reducible exact mm6 | with_reducible exact mm7 | with_reducible exact mm8 | with_reducible exact mm9) (by first | with_reducible exact one3 | with_reducible exact one4 | with_reducible exact one31) (by (repeat (first | rw [List.length_set] | rw [nau_len] | rw [sub_len] | rw [spl_len])) <;> omega) ?_)))
        go_roundg (len - (j + 1))
        case measure => omega
        case rel => exact ⟨j + 1, zs, bs, by omega, by omega, by go_num, lz, lb, hrow, hI.sub (.cons _ (.refl _))⟩
      · have hw1 : (gi r 1 == k) = false := by simpa using hwk
        cases hkd : (bits BinOp.and IntKind.i64 (gi r 0) 1 == 0)
        · have lb2 := sealB_len bs (gi r 1) lb
          go_wp2_with (first | ((with_reducible refine wpList_on  (by with_unfolding_all rfl) ?_)) | (with_reducible refine wpList_load_arg hI (by with_unfolding_all rfl) hcell (by simp) (by with_unfolding_all exact hagg) ?_) | ((with_reducible refine wpList_alloc_ia hI (by first | with_reducible exact zi22 | with_reducible exact zi24 | with_reducible exact zi25 | with_reducible exact zi26 | with_reducible exact zi28 | with_reducible exact zi52) ?_); clear hI; intro bx w hI) | ((with_reducible refine wpList_store_iw hI (by with_unfolding_all rfl) (by with_unfolding_all rfl) (by first | with_reducible exact uu0 | with_reducible exact uu1 | with_reducible exact uu2 | with_reducible exact uu3 | with_reducible exact uu4 | with_reducible exact uu5 | with_reducible exact uu6 | with_reducible exact uu7 | with_reducible exact uu8 | with_reducible exact uu9) (by first | with_reducible exact agg22 | with_reducible exact agg24 | with_reducible exact agg25 | with_reducible exact agg26 | with_reducible exact agg28 | with_reducible exact agg52) (by (repeat (first | rw [List.length_set] | rw [nau_len] | rw [sub_len] | rw [spl_len])) <;> omega) (by (repeat (first | rw [List.length_set] | rw [nau_len] | rw [sub_len] | rw [spl_len])) <;> omega) ?_); clear hI; intro w hI) | ((with_reducible refine wpList_load_i1 hI (by with_unfolding_all rfl) (by first | with_reducible exact mm0 | with_reducible exact mm1 | with_reducible exact mm2 | with_reducible exact mm3 | with_reducible exact mm4 | with_reducible exact mm5 | with_reducible exact mm6 | with_reducible exact mm7 | with_reducible exact mm8 | with_reducible exact mm9) (by first | with_reducible exact one3 | with_reducible exact one4 | with_reducible exact one31) (by (repeat (first | rw [List.length_set] | rw [nau_len] | rw [sub_len] | rw [spl_len])) <;> omega) ?_)) | (go_at_call 26; (with_reducible refine (mseal_any _ b7 50 zs bs lz lb (hI.mbk (by (first | with_reducible exact mm0 | with_reducible exact mm1 | with_reducible exact mm2 | with_reducible exact mm3 | with_reducible exact mm4 | with_reducible exact mm5 | with_reducible exact mm6 | with_reducible exact mm7 | with_reducible exact mm8 | with_reducible exact mm9))) _).mono ?_); rintro e w1 ⟨rfl, hst, hbk⟩; replace hI := hI.mcall (by (first | with_reducible exact uu0 | with_reducible exact uu1 | with_reducible exact uu2 | with_reducible exact uu3 | with_reducible exact uu4 | with_reducible exact uu5 | with_reducible exact uu6 | with_reducible exact uu7 | with_reducible exact uu8 | with_reducible exact uu9)) hst hbk; clear hst hbk))
          go_roundg (len - (j + 1))
          case measure => omega
          case rel => exact ⟨j + 1, zs, _, by omega, by omega, by go_num, lz, lb2, hrow, hI.sub (.cons _ (.refl _))⟩
        · have lz2 := keepZ_len zs bs (gi r 1) (sub r 2 174) lz hsl
          have hrow2 : Hid (rowOf (keepZ zs bs (gi r 1) (sub r 2 174)) k = x) := Lib.hid (by rw [rowOf_keepZ _ _ _ _ _ lz hsl, if_neg (fun hh => hwk hh.2.symm)]; exact hrow.out)
          clear hwk
          go_wp2_with (first | ((with_reducible refine wpList_on  (by with_unfolding_all rfl) ?_)) | (with_reducible refine wpList_load_arg hI (by with_unfolding_all rfl) hcell (by simp) (by with_unfolding_all exact hagg) ?_) | ((with_reducible refine wpList_alloc_ia hI (by first | with_reducible exact zi22 | with_reducible exact zi24 | with_reducible exact zi25 | with_reducible exact zi26 | with_reducible exact zi28 | with_reducible exact zi52) ?_); clear hI; intro bx w hI) | ((with_reducible refine wpList_store_iw hI (by with_unfolding_all rfl) (by with_unfolding_all rfl) (by first | with_reducible exact uu0 | with_reducible exact uu1 | with_reducible exact uu2 | with_reducible exact uu3 | with_reducible exact uu4 | with_reducible exact uu5 | with_reducible exact uu6 | with_reducible exact uu7 | with_reducible exact uu8 | with_reducible exact uu9) (by first | with_reducible exact agg22 | with_reducible exact agg24 | with_reducible exact agg25 | with_reducible exact agg26 | with_reducible exact agg28 | with_reducible exact agg52) (by (repeat (first | rw [List.length_set] | rw [nau_len] | rw [sub_len] | rw [spl_len])) <;> omega) (by (repeat (first | rw [List.length_set] | rw [nau_len] | rw [sub_len] | rw [spl_len])) <;> omega) ?_); clear hI; intro w hI) | ((with_reducible refine wpList_load_i1 hI (by with_unfolding_all rfl) (by first | with_reducible exact mm0 | with_reducible exact mm1 | with_reducible exact mm2 | with_reducible exact mm3 | with_reducible exact mm4 | with_reducible exact mm5 | with_reducible exact mm6 | with_reducible exact mm7 | with_reducible exact mm8 | with_reducible exact mm9) (by first | with_reducible exact one3 | with_reducible exact one4 | with_reducible exact one31) (by (repeat (first | rw [List.length_set] | rw [nau_len] | rw [sub_len] | rw [spl_len])) <;> omega) ?_)) | ((with_reducible refine wpList_load_ia hI (by with_unfolding_all rfl) (by first | with_reducible exact mm0 | with_reducible exact mm1 | with_reducible exact mm2 | with_reducible exact mm3 | with_reducible exact mm4 | with_reducible exact mm5 | with_reducible exact mm6 | with_reducible exact mm7 | with_reducible exact mm8 | with_reducible exact mm9) (by first | with_reducible exact agg22 | with_reducible exact agg24 | with_reducible exact agg25 | with_reducible exact agg26 | with_reducible exact agg28 | with_reducible exact agg52) (by (repeat (first | rw [List.length_set] | rw [nau_len] | rw [sub_len] | rw [spl_len])) <;> omega) ?_)) | (go_at_call 28; (with_reducible refine (mkeep_any _ b7 50 zs bs lz lb (hI.mbk (by (first | with_reducible exact mm0 | with_reducible exact mm1 | with_reducible exact mm2 | with_reducible exact mm3 | with_reducible exact mm4 | with_reducible exact mm5 | with_reducible exact mm6 | with_reducible exact mm7 | with_reducible exact mm8 | with_reducible exact mm9))) _ _ hsl).mono ?_); rintro e w1 ⟨rfl, hst, hbk⟩; replace hI := hI.mcall (by (first | with_reducible exact uu0 | with_reducible exact uu1 | with_reducible exact uu2 | with_reducible exact uu3 | with_reducible exact uu4 | with_reducible exact uu5 | with_reducible exact uu6 | with_reducible exact uu7 | with_reducible exact uu8 | with_reducible exact uu9)) hst hbk; clear hst hbk))
          go_roundg (len - (j + 1))
          case measure => omega
          case rel => exact ⟨j + 1, _, bs, by omega, by omega, by go_num, lz2, lb, hrow2, hI.sub (.cons _ (.refl _))⟩
    · obtain rfl : j = len := by omega
      clear h
      have lb2 := sealB_len bs k lb
      have hs2 : gb (sealB bs k) k.toNat = true := by unfold sealB; rw [if_pos hm, gb_set, if_pos ⟨rfl, by omega⟩]
      have ktak : Hid (∀ y, keepB zs (sealB bs k) k y = false) := Lib.hid (fun y => by unfold keepB; rw [hs2]; simp)
      clear hs2
      go_upto_region 18 with (first | ((with_reducible refine wpList_load_iw hI (by with_unfolding_all rfl) (by first | with_reducible exact mm0 | with_reducible exact mm1 | with_reducible exact mm2 | with_reducible exact mm3 | with_reducible exact mm4 | with_reducible exact mm5 | with_reducible exact mm6 | with_reducible exact mm7 | with_reducible exact mm8 | with_reducible exact mm9) (by first | with_reducible exact agg22 | with_reducible exact agg24 | with_reducible exact agg25 | with_reducible exact agg26 | with_reducible exact agg28 | with_reducible exact agg52) (by (repeat (first | rw [List.length_set] | rw [nau_len] | rw [sub_len] | rw [spl_len])) <;> omega) ?_)) | ((with_reducible refine wpList_alloc_ia hI (by first | with_reducible exact zi22 | with_reducible exact zi24 | with_reducible exact zi25 | with_reducible exact zi26 | with_reducible exact zi28 | with_reducible exact zi52) ?_); clear hI; intro bx w hI) | ((with_reducible refine wpList_store_iw hI (by with_unfolding_all rfl) (by with_unfolding_all rfl) (by first | with_reducible exact uu0 | with_reducible exact uu1 | with_reducible exact uu2 | with_reducible exact uu3 | with_reducible exact uu4 | with_reducible exact uu5 | with_reducible exact uu6 | with_reducible exact uu7 | with_reducible exact uu8 | with_reducible exact uu9) (by first | with_reducible exact agg22 | with_reducible exact agg24 | with_reducible exact agg25 | with_reducible exact agg26 | with_reducible exact agg28 | with_reducible exact agg52) (by (repeat (first | rw [List.length_set] | rw [nau_len] | rw [sub_len] | rw [spl_len])) <;> omega) (by (repeat (first | rw [List.length_set] | rw [nau_len] | rw [sub_len] | rw [spl_len])) <;> omega) ?_); clear hI; intro w hI) | (go_at_call 26; (with_reducible refine (mseal_any _ b7 50 zs bs lz lb (hI.mbk (by (first | with_reducible exact mm0 | with_reducible exact mm1 | with_reducible exact mm2 | with_reducible exact mm3 | with_reducible exact mm4 | with_reducible exact mm5 | with_reducible exact mm6 | with_reducible exact mm7 | with_reducible exact mm8 | with_reducible exact mm9))) k).mono ?_); rw [hrow.out, hm]; rintro e w1 ⟨rfl, hst, hbk⟩; replace hI := hI.mcall (by (first | with_reducible exact uu0 | with_reducible exact uu1 | with_reducible exact uu2 | with_reducible exact uu3 | with_reducible exact uu4 | with_reducible exact uu5 | with_reducible exact uu6 | with_reducible exact uu7 | with_reducible exact uu8 | with_reducible exact uu9)) hst hbk; clear hst hbk))
      (try simp only [Act.put, List.setIfInBounds_toArray, List.set_cons_succ, List.set_cons_zero])
      generalize sealB bs k = bs2 at *
      (refine wp_region_reg (C := fun w' => Inv _ _ w' _) [] (fun w' => Inv _ _ w' _) hI.drew (fun _ h => h) mixed (by kernel_rfl) ?_; clear hI; (repeat (first | ((with_reducible refine wpReg_skip (by with_unfolding_all rfl) ?_); simp only [Act.put, List.setIfInBounds_toArray, List.set_cons_succ, List.set_cons_zero]) | ((with_reducible apply wpReg_read); rfl; rfl; (focus ((intro w hI0; have hI : Inv _ _ w _ := hI0; clear hI0); go_wp2_with (first | ((with_reducible refine wpList_load_iw hI (by with_unfolding_all rfl) (by first | with_reducible exact mm0 | with_reducible exact mm1 | with_reducible exact mm2 | with_reducible exact mm3 | with_reducible exact mm4 | with_reducible exact mm5 | with_reducible exact mm6 | with_reducible exact mm7 | with_reducible exact mm8 | with_reducible exact mm9) (by first | with_reducible exact agg22 | with_reducible exact agg24 | with_reducible exact agg25 | with_reducible exact agg26 | with_reducible exact agg28 | with_reducible exact agg52) (by (repeat (first | rw [List.length_set] | rw [nau_len] | rw [sub_len] | rw [spl_len])) <;> omega) ?_)) | ((with_reducible refine wpList_load_i1 hI (by with_unfolding_all rfl) (by first | with_reducible exact mm0 | with_reducible exact mm1 | with_reducible exact mm2 | with_reducible exact mm3 | with_reducible exact mm4 | with_reducible exact mm5 | with_reducible exact mm6 | with_reducible exact mm7 | with_reducible exact mm8 | with_reducible exact mm9) (by first | with_reducible exact one3 | with_reducible exact one4 | with_reducible exact one31) (by (repeat (first | rw [List.length_set] | rw [nau_len] | rw [sub_len] | rw [spl_len])) <;> omega) ?_)) | (go_at_call 29; (with_reducible refine (mrow_any _ b7 50 zs bs2 lz lb2 (hI.mbk (by (first | with_reducible exact mm0 | with_reducible exact mm1 | with_reducible exact mm2 | with_reducible exact mm3 | with_reducible exact mm4 | with_reducible exact mm5 | with_reducible exact mm6 | with_reducible exact mm7 | with_reducible exact mm8 | with_reducible exact mm9))) k).mono ?_); rw [hrow.out]; rintro e w1 ⟨rfl, hst, hbk⟩; replace hI := hI.mcall (by (first | with_reducible exact uu0 | with_reducible exact uu1 | with_reducible exact uu2 | with_reducible exact uu3 | with_reducible exact uu4 | with_reducible exact uu5 | with_reducible exact uu6 | with_reducible exact uu7 | with_reducible exact uu8 | with_reducible exact uu9)) hst hbk; clear hst hbk) | (go_at_call 27; (with_reducible refine (mtakes_any _ b7 50 zs bs2 lz lb2 (hI.mbk (by (first | with_reducible exact mm0 | with_reducible exact mm1 | with_reducible exact mm2 | with_reducible exact mm3 | with_reducible exact mm4 | with_reducible exact mm5 | with_reducible exact mm6 | with_reducible exact mm7 | with_reducible exact mm8 | with_reducible exact mm9))) k _ (by rw [List.length_set]; exact hn)).mono ?_); rw [ktak.out]; rintro e w1 ⟨rfl, hst, hbk⟩; replace hI := hI.mcall (by (first | with_reducible exact uu0 | with_reducible exact uu1 | with_reducible exact uu2 | with_reducible exact uu3 | with_reducible exact uu4 | with_reducible exact uu5 | with_reducible exact uu6 | with_reducible exact uu7 | with_reducible exact uu8 | with_reducible exact uu9)) hst hbk; clear hst hbk)); (try simp only [Act.put, List.setIfInBounds_toArray, List.set_cons_succ, List.set_cons_zero]); exact ⟨rfl, rfl, hI⟩)); (first | exact ⟨_, rfl⟩ | exact ⟨undef, rfl⟩)) | ((with_reducible apply wpReg_pure); rfl; rfl; (focus (intro D w hD hE; have hI : Inv _ _ w _ := hE; (try simp only [List.eraseIdx_cons_succ, List.eraseIdx_cons_zero] at hI); go_wp2_with (first | ((with_reducible refine wpList_eq_same  (by with_unfolding_all rfl) (by with_unfolding_all rfl) (by first | with_reducible exact agg22 | with_reducible exact agg24 | with_reducible exact agg25 | with_reducible exact agg26 | with_reducible exact agg28 | with_reducible exact agg52) (by first | with_reducible exact flatT22 | with_reducible exact flatT24 | with_reducible exact flatT25 | with_reducible exact flatT26 | with_reducible exact flatT28) (by (repeat (first | rw [List.length_set] | rw [nau_len] | rw [sub_len] | rw [spl_len])) <;> omega) ?_)) | (with_reducible refine wpList_build1_ia (by with_unfolding_all rfl) zi28 fld28 (by omega) ?_)); (try simp only [Act.put, List.setIfInBounds_toArray, List.set_cons_succ, List.set_cons_zero]); exact ⟨rfl, rfl, hD⟩)); (first | exact ⟨_, rfl⟩ | exact ⟨undef, rfl⟩)))); ((with_reducible refine wpReg_nil ?_); intro w hI0; have hI : Inv _ _ w _ := hI0; clear hI0))
      go_wp2
      go_ret
      exact ⟨rfl, hI.below⟩
theorem mapart_cells (w0 : World) (x : List Int) (who : Int) (a : Option Addr) (len c : Nat) (row : Nat → List Value) (hx : x.length = 174) (hwx : Wf x) (h : SlArg w0 a len c (List.replicate 176 pInt) row) :
    Calls Try.prog 10 #[ia x, .int .i64 who, .slice a len c] w0 fun e w' => e = .returned (.bool true) ∧ Below w0.heap.size w0 w' := by
  obtain ⟨r, hr⟩ := h.ints
  exact mapart_walk w0 x who a len c r hx hwx hr
end Go.Proofs.Ythncfjfgjdeajaa
