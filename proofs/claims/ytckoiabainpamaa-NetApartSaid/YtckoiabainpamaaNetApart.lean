/-
  The law NetApart: its walk. No condition.
-/
import Derived.Test.YtckoiabainpamaaNetFit
import Derived.Test.YtckoiabainpamaaMapB
import Derived.Test.YtckoiabainpamaaBits
import Derived.Test.YtckoiabainpamaaLinkFrames
import Derived.Deep.DeepCutAuto
namespace Go.Proofs.Ytckoiabainpamaa
open Go.RowKit
set_option maxRecDepth 100000
set_option linter.unusedSimpArgs false
set_option linter.unusedVariables false
theorem rem5 {z : Int} (h : 0 ≤ z) : ∃ f : Nat, f < 5 ∧ z.tmod 5 = (f : Int) := ⟨(z % 5).toNat, by omega, by rw [Int.tmod_eq_emod_of_nonneg h]; omega⟩
theorem and5 (x : Int) : ∃ f : Nat, f < 5 ∧ (bits BinOp.and IntKind.i64 x 255).tmod 5 = (f : Int) := rem5 (and_range x 255 (by decide)).1
set_option maxHeartbeats 6400000 in
theorem napart_walk (w0 : World) (from_ to_ : Int) (a : Option Addr) (len cp : Nat) (ra : Nat → Option Addr) (rc : Nat → Nat) (rb : Nat → List UInt8) (h : BArg w0 a len ra rc rb) :
    Calls Try.prog 10 #[.int .i64 from_, .int .i64 to_, .slice a len cp] w0 fun e w' => e = .returned (.bool true) ∧ Below w0.heap.size w0 w' := by
  have hI := Inv.start w0
  by_cases hbig : 20 < len
  · have hb : decide ((20 : Int) < (len : Int)) = true := by simp; omega
    clear h hbig
    go_enter Try.func10, Try.ntmps10
    go_wp2_with (first | ((with_reducible refine wpList_on  (by with_unfolding_all rfl) ?_)) | (go_at_call 28; refine (fit09 _).mono ?_; rintro e w1 ⟨rfl, hw1⟩; replace hI := hI.call hw1; clear hw1))
    go_ret
    exact ⟨rfl, hI.below⟩
  have hb : decide ((20 : Int) < (len : Int)) = false := by simp; omega
  have hl20 : len ≤ 20 := by omega
  clear hbig
  obtain ⟨f, hf5, hfe⟩ := and5 from_
  obtain ⟨t, ht5, hte⟩ := and5 to_
  go_enter Try.func10, Try.ntmps10
  go_upto_region 8 with (first | ((with_reducible refine wpList_on  (by with_unfolding_all rfl) ?_)) | (go_at_call 28; refine (fit09 _).mono ?_; rintro e w1 ⟨rfl, hw1⟩; replace hI := hI.call hw1; clear hw1) | (go_at_call 29; refine (net_new _).mono ?_; rintro e w1 ⟨p, pb, c, rfl, hJ⟩; replace hI := hI.seq hJ; simp only [List.cons_append, List.nil_append] at hI; clear hJ))
  clear hfe hte hb
  by_cases hft : f = t
  · subst hft
    have g1 : ((f : Int) == (f : Int)) = true := by simp
    rw [← netOne_0 1] at hI
    have hle8 := netOne_le (i := 1) (show ([] : List QE).length ≤ 8 by simp)
    have hln : lenTo (netOne 1 []) 25 = 0 := netOne_len (by decide) []
    go_wp2_with fail
    go_loopg [8, 10, 28] len (fun kk s8 s10 i wr => ∃ (j : Nat), kk = len - j ∧ j ≤ len ∧ i = .int .i64 j ∧ s8 = .int .i64 0 ∧ Inv [] w0 wr [ntr 73 p pb c (netOne 1 [])])
    case atStart => exact ⟨0, by omega, by omega, rfl, rfl, hI⟩
    case round =>
      clear hI
      obtain ⟨j, rfl, hj, rfl, rfl, hI⟩ := hrel
      by_cases hlj : j < len
      · obtain ⟨hrj, hbr, b, off, rfl, hcell⟩ := h.row j hlj
        clear h
        generalize ra j = aj at *
        generalize rc j = cj at *
        generalize rb j = bj at *
        by_cases h50 : 100 < bj.length
        · have hb50 : decide ((100 : Int) < (bj.length : Int)) = true := by simp; omega
          clear h50
          go_wp2_with (first | ((with_reducible refine wpList_on  (by with_unfolding_all rfl) ?_)) | (with_reducible refine wpList_load_arg1 hI (by with_unfolding_all rfl) hcell (by simp) one22 ?_))
          go_ret
          exact ⟨rfl, hI.below⟩
        have hb50 : decide ((100 : Int) < (bj.length : Int)) = false := by simp; omega
        clear h50
        go_wp2_with (first | ((with_reducible refine wpList_on  (by with_unfolding_all rfl) ?_)) | (with_reducible refine wpList_load_arg1 hI (by with_unfolding_all rfl) hcell (by simp) one22 ?_) | (go_at_call 30; with_reducible refine (send_same _ p pb c _ _ f hf5 (hI.at_ (by (first | with_reducible exact mm0 | with_reducible exact mm1 | with_reducible exact mm2 | with_reducible exact mm3 | with_reducible exact mm4 | with_reducible exact mm5 | with_reducible exact mm6 | with_reducible exact mm7 | with_reducible exact mm8 | with_reducible exact mm9)))).mono ?_; rintro e w1 ⟨rfl, hw⟩; rw [hw]; clear hw))
        go_roundg (len - (j + 1))
        case measure => omega
        case rel => exact ⟨j + 1, by omega, by omega, by go_num, rfl, hI⟩
      · obtain rfl : j = len := by omega
        go_wp2_with (first | ((with_reducible refine wpList_on  (by with_unfolding_all rfl) ?_)) | (go_at_call 31; with_reducible refine (len_net _ p pb c _ hle8 (hI.at_ (by (first | with_reducible exact mm0 | with_reducible exact mm1 | with_reducible exact mm2 | with_reducible exact mm3 | with_reducible exact mm4 | with_reducible exact mm5 | with_reducible exact mm6 | with_reducible exact mm7 | with_reducible exact mm8 | with_reducible exact mm9)))).mono ?_; rintro e w1 ⟨rfl, hw1⟩; replace hI := hI.call hw1; clear hw1; rw [hln]))
        go_ret
        exact ⟨rfl, hI.below⟩
  · have g1 : ((f : Int) == (t : Int)) = false := by simp; omega
    have hiw0 : f * 5 + t ∈ ways20 := ways_mem (by omega) (by omega)
    rw [← netOne_0 (f * 5 + t)] at hI
    go_wp2_with fail
    go_loopg [8, 10, 28] len (fun kk s8 s10 i wr => ∃ (j : Nat) (v : List QE), kk = len - j ∧ j ≤ len ∧ i = .int .i64 j ∧ s8 = .int .i64 v.length ∧ Hid (v.length = min j 8) ∧ Inv [] w0 wr [ntr 73 p pb c (netOne (f * 5 + t) v)])
    case atStart => exact ⟨0, [], by omega, by omega, rfl, rfl, Lib.hid rfl, hI⟩
    case round =>
      clear hI
      obtain ⟨j, v, rfl, hj, rfl, rfl, hv, hI⟩ := hrel
      have hv8 : v.length ≤ 8 := by have := hv.out; omega
      by_cases hlj : j < len
      · obtain ⟨hrj, hbr, b, off, rfl, hcell⟩ := h.row j hlj
        clear h
        generalize ra j = aj at *
        generalize rc j = cj at *
        generalize rb j = bj at *
        by_cases h50 : 100 < bj.length
        · have hb50 : decide ((100 : Int) < (bj.length : Int)) = true := by simp; omega
          clear h50
          go_wp2_with (first | ((with_reducible refine wpList_on  (by with_unfolding_all rfl) ?_)) | (with_reducible refine wpList_load_arg1 hI (by with_unfolding_all rfl) hcell (by simp) one22 ?_))
          go_ret
          exact ⟨rfl, hI.below⟩
        have hb50 : decide ((100 : Int) < (bj.length : Int)) = false := by simp; omega
        have hbl : bj.length ≤ 100000 := by omega
        replace hrj : Rd w0 aj (bj.map bv) := hrj
        clear h50
        by_cases hr8 : v.length < 8
        · have hroom : (netOne (f * 5 + t) v (f * 5 + t)).length < 8 := by rw [netOne_at]; exact hr8
          have hv2 : Hid (v.length + 1 = min (j + 1) 8) := Lib.hid (by have := hv.out; omega)
          go_wp2_with (first | ((with_reducible refine wpList_on  (by with_unfolding_all rfl) ?_)) | (with_reducible refine wpList_load_arg1 hI (by with_unfolding_all rfl) hcell (by simp) one22 ?_) | (go_at_call 30; with_reducible refine (send_way _ p pb c _ f t (f * 5 + t) hf5 ht5 rfl hft (hI.at_ (by (first | with_reducible exact mm0 | with_reducible exact mm1 | with_reducible exact mm2 | with_reducible exact mm3 | with_reducible exact mm4 | with_reducible exact mm5 | with_reducible exact mm6 | with_reducible exact mm7 | with_reducible exact mm8 | with_reducible exact mm9))) _ _ bj (hI.rd0 hrj) hbl hroom).mono ?_; rintro e w1 ⟨rfl, a1, c1, hJ⟩; replace hI := hI.on hJ (by (first | with_reducible exact uu0 | with_reducible exact uu1 | with_reducible exact uu2 | with_reducible exact uu3 | with_reducible exact uu4 | with_reducible exact uu5 | with_reducible exact uu6 | with_reducible exact uu7 | with_reducible exact uu8 | with_reducible exact uu9)); clear hJ))
          rw [netOne_at, netOne_upf] at hI
          go_roundg (len - (j + 1))
          case measure => omega
          case rel => exact ⟨j + 1, v ++ [(a1, c1, bj)], by omega, by omega, by go_num, by rw [List.length_append]; go_num, by rw [List.length_append]; exact hv2, hI⟩
        · have hfull : 8 ≤ (netOne (f * 5 + t) v (f * 5 + t)).length := by rw [netOne_at]; omega
          have hv2 : Hid (v.length = min (j + 1) 8) := Lib.hid (by have := hv.out; omega)
          go_wp2_with (first | ((with_reducible refine wpList_on  (by with_unfolding_all rfl) ?_)) | (with_reducible refine wpList_load_arg1 hI (by with_unfolding_all rfl) hcell (by simp) one22 ?_) | (go_at_call 30; with_reducible refine (send_full _ p pb c _ f t (f * 5 + t) hf5 ht5 rfl hft (hI.at_ (by (first | with_reducible exact mm0 | with_reducible exact mm1 | with_reducible exact mm2 | with_reducible exact mm3 | with_reducible exact mm4 | with_reducible exact mm5 | with_reducible exact mm6 | with_reducible exact mm7 | with_reducible exact mm8 | with_reducible exact mm9))) _ _ bj (hI.rd0 hrj) hbl hfull).mono ?_; rintro e w1 ⟨rfl, hw1⟩; replace hI := hI.call hw1; clear hw1))
          go_roundg (len - (j + 1))
          case measure => omega
          case rel => exact ⟨j + 1, v, by omega, by omega, by go_num, rfl, hv2, hI⟩
      · obtain rfl : j = len := by omega
        clear h
        obtain ⟨k, hvk⟩ : ∃ k, v.length = k := ⟨_, rfl⟩
        rw [hvk] at hv hv8 ⊢
        have hkmin : k = min j 8 := hv.out
        clear hv
        have hle8 := netOne_le (i := f * 5 + t) (show v.length ≤ 8 by omega)
        have hln : lenTo (netOne (f * 5 + t) v) 25 = k := by rw [netOne_len hiw0]; exact hvk
        replace hvk := Lib.hid hvk
        replace hkmin := Lib.hid hkmin
        go_upto_region 19 with (first | ((with_reducible refine wpList_on  (by with_unfolding_all rfl) ?_)))
        go_loopg [11, 12, 13, 53, 56] 5 (fun kk s11 s12 s13 i s56 wr => ∃ (x : Nat), kk = 5 - x ∧ x ≤ 5 ∧ i = .int .i64 x ∧ Inv [] w0 wr [ntr 73 p pb c (netOne (f * 5 + t) v)])
        case atStart => exact ⟨0, by omega, by omega, rfl, hI⟩
        case round =>
          clear hI
          obtain ⟨x, rfl, hx, rfl, hI⟩ := hrel
          by_cases hx5 : x < 5
          · have hxi : (x : Int) < 5 := by omega
            go_upto_region 22 with (first | ((with_reducible refine wpList_on  (by with_unfolding_all rfl) ?_)))
            go_loopg [12, 13, 56] 5 (fun kk s12 s13 i wr => ∃ (y : Nat), kk = 5 - y ∧ y ≤ 5 ∧ i = .int .i64 y ∧ Inv [] w0 wr [ntr 73 p pb c (netOne (f * 5 + t) v)])
            case atStart => exact ⟨0, by omega, by omega, rfl, hI⟩
            case round =>
              clear hI
              obtain ⟨y, rfl, hy, rfl, hI⟩ := hrel
              by_cases hy5 : y < 5
              · have hyi : (y : Int) < 5 := by omega
                by_cases hxy : x = y
                · have g2 : ((x : Int) != (y : Int)) = false := by simp [hxy]
                  have hcv : cellTo pb 25 (x * 5 + y) = .pointer none := by unfold cellTo; rw [if_pos (by omega)]
                  clear hxy
                  go_upto_region 25 with (first | ((with_reducible refine wpList_on  (by with_unfolding_all rfl) ?_)) | (go_at_call 32; with_reducible refine (way_at _ p pb x y hx5 hy5 (nopen (hI.at_ (by (first | with_reducible exact mm0 | with_reducible exact mm1 | with_reducible exact mm2 | with_reducible exact mm3 | with_reducible exact mm4 | with_reducible exact mm5 | with_reducible exact mm6 | with_reducible exact mm7 | with_reducible exact mm8 | with_reducible exact mm9))))).mono ?_; rintro e w1 ⟨rfl, hw⟩; rw [hw]; clear hw; rw [hcv]))
                  go_wp2_with fail
                  go_roundg (5 - (y + 1))
                  case measure => omega
                  case rel => exact ⟨y + 1, by omega, by omega, by go_num, hI⟩
                · have g2 : ((x : Int) != (y : Int)) = true := by simp; omega
                  have hiw : x * 5 + y ∈ ways20 := ways_mem (by omega) (by omega)
                  have hcv := cellTo_way pb hiw
                  by_cases hxf : x = f
                  · by_cases hyt : y = t
                    · have g3 : ((x : Int) == (f : Int)) = true := by simp [hxf]
                      have g4 : ((y : Int) == (t : Int)) = true := by simp [hyt]
                      have hvl : (netOne (f * 5 + t) v (x * 5 + y)).length = k := by rw [hxf, hyt, netOne_at]; exact hvk.out
                      have hlk : Instr.findNow .bool (.bool true) [⟨.bool true, .int .i64 k, 0⟩, ⟨.bool false, .int .i64 0, 1⟩] 0 = some (some (0, .int .i64 k)) := rfl
                      clear hxy hxf hyt
                      go_wp2_with (first | ((with_reducible refine wpList_on  (by with_unfolding_all rfl) ?_)) | (go_at_call 32; with_reducible refine (way_at _ p pb x y hx5 hy5 (nopen (hI.at_ (by (first | with_reducible exact mm0 | with_reducible exact mm1 | with_reducible exact mm2 | with_reducible exact mm3 | with_reducible exact mm4 | with_reducible exact mm5 | with_reducible exact mm6 | with_reducible exact mm7 | with_reducible exact mm8 | with_reducible exact mm9))))).mono ?_; rintro e w1 ⟨rfl, hw⟩; rw [hw]; clear hw; rw [hcv]) | (go_at_call 27; with_reducible refine (nlen _ p pb c _ (i := x * 5 + y) hiw (hI.sat _ (by (first | with_reducible exact mm0 | with_reducible exact mm1 | with_reducible exact mm2 | with_reducible exact mm3 | with_reducible exact mm4 | with_reducible exact mm5 | with_reducible exact mm6 | with_reducible exact mm7 | with_reducible exact mm8 | with_reducible exact mm9)))).mono ?_; rintro e w1 ⟨rfl, hw⟩; rw [hw]; clear hw; rw [hvl]) | (with_reducible refine wpList_makeMapX hI ?_; clear hI; intro mr w hI) | (with_reducible refine wpList_insertX (es := []) (clock := 0) (b := true) (v := .int .i64 k) hI (by with_unfolding_all rfl) (by with_unfolding_all rfl) (by with_unfolding_all rfl) Try.underlying47 Try.underlying4 rfl Upd.here ?_; clear hI; intro w hI; simp only [List.nil_append, Nat.zero_add] at hI) | (with_reducible refine wpList_insertX (es := [⟨.bool true, .int .i64 k, 0⟩]) (clock := 1) (b := false) (v := .int .i64 0) hI (by with_unfolding_all rfl) (by with_unfolding_all rfl) (by with_unfolding_all rfl) Try.underlying47 Try.underlying4 rfl Upd.here ?_; clear hI; intro w hI; simp only [List.cons_append, List.nil_append, Nat.reduceAdd] at hI) | (with_reducible refine wpList_lookupX (es := [⟨.bool true, .int .i64 k, 0⟩, ⟨.bool false, .int .i64 0, 1⟩]) (clock := 2) hI (by with_unfolding_all rfl) (by with_unfolding_all rfl) Try.underlying47 Try.underlying4 mm0 hlk ?_))
                      go_roundg (5 - (y + 1))
                      case measure => omega
                      case rel => exact ⟨y + 1, by omega, by omega, by go_num, hI.sub (.cons _ (.refl _))⟩
                    · have g3 : ((x : Int) == (f : Int)) = true := by simp [hxf]
                      have g4 : ((y : Int) == (t : Int)) = false := by simp; omega
                      have hvl : (netOne (f * 5 + t) v (x * 5 + y)).length = 0 := by rw [netOne_ne v (by omega)]; rfl
                      have hlk : Instr.findNow .bool (.bool false) [⟨.bool true, .int .i64 k, 0⟩, ⟨.bool false, .int .i64 0, 1⟩] 0 = some (some (1, .int .i64 0)) := rfl
                      clear hxy hxf hyt
                      go_wp2_with (first | ((with_reducible refine wpList_on  (by with_unfolding_all rfl) ?_)) | (go_at_call 32; with_reducible refine (way_at _ p pb x y hx5 hy5 (nopen (hI.at_ (by (first | with_reducible exact mm0 | with_reducible exact mm1 | with_reducible exact mm2 | with_reducible exact mm3 | with_reducible exact mm4 | with_reducible exact mm5 | with_reducible exact mm6 | with_reducible exact mm7 | with_reducible exact mm8 | with_reducible exact mm9))))).mono ?_; rintro e w1 ⟨rfl, hw⟩; rw [hw]; clear hw; rw [hcv]) | (go_at_call 27; with_reducible refine (nlen _ p pb c _ (i := x * 5 + y) hiw (hI.sat _ (by (first | with_reducible exact mm0 | with_reducible exact mm1 | with_reducible exact mm2 | with_reducible exact mm3 | with_reducible exact mm4 | with_reducible exact mm5 | with_reducible exact mm6 | with_reducible exact mm7 | with_reducible exact mm8 | with_reducible exact mm9)))).mono ?_; rintro e w1 ⟨rfl, hw⟩; rw [hw]; clear hw; rw [hvl]) | (with_reducible refine wpList_makeMapX hI ?_; clear hI; intro mr w hI) | (with_reducible refine wpList_insertX (es := []) (clock := 0) (b := true) (v := .int .i64 k) hI (by with_unfolding_all rfl) (by with_unfolding_all rfl) (by with_unfolding_all rfl) Try.underlying47 Try.underlying4 rfl Upd.here ?_; clear hI; intro w hI; simp only [List.nil_append, Nat.zero_add] at hI) | (with_reducible refine wpList_insertX (es := [⟨.bool true, .int .i64 k, 0⟩]) (clock := 1) (b := false) (v := .int .i64 0) hI (by with_unfolding_all rfl) (by with_unfolding_all rfl) (by with_unfolding_all rfl) Try.underlying47 Try.underlying4 rfl Upd.here ?_; clear hI; intro w hI; simp only [List.cons_append, List.nil_append, Nat.reduceAdd] at hI) | (with_reducible refine wpList_lookupX (es := [⟨.bool true, .int .i64 k, 0⟩, ⟨.bool false, .int .i64 0, 1⟩]) (clock := 2) hI (by with_unfolding_all rfl) (by with_unfolding_all rfl) Try.underlying47 Try.underlying4 mm0 hlk ?_))
                      go_roundg (5 - (y + 1))
                      case measure => omega
                      case rel => exact ⟨y + 1, by omega, by omega, by go_num, hI.sub (.cons _ (.refl _))⟩
                  · have g3 : ((x : Int) == (f : Int)) = false := by simp; omega
                    have hvl : (netOne (f * 5 + t) v (x * 5 + y)).length = 0 := by rw [netOne_ne v (by omega)]; rfl
                    have hlk : Instr.findNow .bool (.bool false) [⟨.bool true, .int .i64 k, 0⟩, ⟨.bool false, .int .i64 0, 1⟩] 0 = some (some (1, .int .i64 0)) := rfl
                    clear hxy hxf
                    go_wp2_with (first | ((with_reducible refine wpList_on  (by with_unfolding_all rfl) ?_)) | (go_at_call 32; with_reducible refine (way_at _ p pb x y hx5 hy5 (nopen (hI.at_ (by (first | with_reducible exact mm0 | with_reducible exact mm1 | with_reducible exact mm2 | with_reducible exact mm3 | with_reducible exact mm4 | with_reducible exact mm5 | with_reducible exact mm6 | with_reducible exact mm7 | with_reducible exact mm8 | with_reducible exact mm9))))).mono ?_; rintro e w1 ⟨rfl, hw⟩; rw [hw]; clear hw; rw [hcv]) | (go_at_call 27; with_reducible refine (nlen _ p pb c _ (i := x * 5 + y) hiw (hI.sat _ (by (first | with_reducible exact mm0 | with_reducible exact mm1 | with_reducible exact mm2 | with_reducible exact mm3 | with_reducible exact mm4 | with_reducible exact mm5 | with_reducible exact mm6 | with_reducible exact mm7 | with_reducible exact mm8 | with_reducible exact mm9)))).mono ?_; rintro e w1 ⟨rfl, hw⟩; rw [hw]; clear hw; rw [hvl]) | (with_reducible refine wpList_makeMapX hI ?_; clear hI; intro mr w hI) | (with_reducible refine wpList_insertX (es := []) (clock := 0) (b := true) (v := .int .i64 k) hI (by with_unfolding_all rfl) (by with_unfolding_all rfl) (by with_unfolding_all rfl) Try.underlying47 Try.underlying4 rfl Upd.here ?_; clear hI; intro w hI; simp only [List.nil_append, Nat.zero_add] at hI) | (with_reducible refine wpList_insertX (es := [⟨.bool true, .int .i64 k, 0⟩]) (clock := 1) (b := false) (v := .int .i64 0) hI (by with_unfolding_all rfl) (by with_unfolding_all rfl) (by with_unfolding_all rfl) Try.underlying47 Try.underlying4 rfl Upd.here ?_; clear hI; intro w hI; simp only [List.cons_append, List.nil_append, Nat.reduceAdd] at hI) | (with_reducible refine wpList_lookupX (es := [⟨.bool true, .int .i64 k, 0⟩, ⟨.bool false, .int .i64 0, 1⟩]) (clock := 2) hI (by with_unfolding_all rfl) (by with_unfolding_all rfl) Try.underlying47 Try.underlying4 mm0 hlk ?_))
                    go_roundg (5 - (y + 1))
                    case measure => omega
                    case rel => exact ⟨y + 1, by omega, by omega, by go_num, hI.sub (.cons _ (.refl _))⟩
              · obtain rfl : y = 5 := by omega
                go_wp2_with (first | ((with_reducible refine wpList_on  (by with_unfolding_all rfl) ?_)))
                go_roundg (5 - (x + 1))
                case measure => omega
                case rel => exact ⟨x + 1, by omega, by omega, by go_num, hI⟩
          · obtain rfl : x = 5 := by omega
            by_cases hj8 : j < 8
            · have g7 : decide ((j : Int) < 8) = true := by simp; omega
              have g8 : ((k : Int) == (j : Int)) = true := by have := hkmin.out; simp; omega
              go_wp2_with (first | ((with_reducible refine wpList_on  (by with_unfolding_all rfl) ?_)) | (go_at_call 31; with_reducible refine (len_net _ p pb c _ hle8 (hI.at_ (by (first | with_reducible exact mm0 | with_reducible exact mm1 | with_reducible exact mm2 | with_reducible exact mm3 | with_reducible exact mm4 | with_reducible exact mm5 | with_reducible exact mm6 | with_reducible exact mm7 | with_reducible exact mm8 | with_reducible exact mm9)))).mono ?_; rintro e w1 ⟨rfl, hw1⟩; replace hI := hI.call hw1; clear hw1; rw [hln]))
              go_ret
              exact ⟨rfl, hI.below⟩
            · by_cases hj9 : j = 8
              · subst hj9
                have g8 : ((k : Int) == 8) = true := by have := hkmin.out; simp; omega
                go_wp2_with (first | ((with_reducible refine wpList_on  (by with_unfolding_all rfl) ?_)) | (go_at_call 31; with_reducible refine (len_net _ p pb c _ hle8 (hI.at_ (by (first | with_reducible exact mm0 | with_reducible exact mm1 | with_reducible exact mm2 | with_reducible exact mm3 | with_reducible exact mm4 | with_reducible exact mm5 | with_reducible exact mm6 | with_reducible exact mm7 | with_reducible exact mm8 | with_reducible exact mm9)))).mono ?_; rintro e w1 ⟨rfl, hw1⟩; replace hI := hI.call hw1; clear hw1; rw [hln]))
                go_ret
                exact ⟨rfl, hI.below⟩
              · have g7 : (8 : Int) < (j : Int) := by omega
                have g8 : ((k : Int) == 8) = true := by have := hkmin.out; simp; omega
                clear hj8 hj9
                go_wp2_with (first | ((with_reducible refine wpList_on  (by with_unfolding_all rfl) ?_)) | (go_at_call 31; with_reducible refine (len_net _ p pb c _ hle8 (hI.at_ (by (first | with_reducible exact mm0 | with_reducible exact mm1 | with_reducible exact mm2 | with_reducible exact mm3 | with_reducible exact mm4 | with_reducible exact mm5 | with_reducible exact mm6 | with_reducible exact mm7 | with_reducible exact mm8 | with_reducible exact mm9)))).mono ?_; rintro e w1 ⟨rfl, hw1⟩; replace hI := hI.call hw1; clear hw1; rw [hln]))
                go_ret
                exact ⟨rfl, hI.below⟩
theorem napart_cells (w0 : World) (x y : Int) (a : Option Addr) (len c : Nat) (row : Nat → List Value) (h : SlArg w0 a len c [pSlice [pU8]] row) :
    Calls Try.prog 10 #[.int .i64 x, .int .i64 y, .slice a len c] w0 fun e w' => e = .returned (.bool true) ∧ Below w0.heap.size w0 w' := by
  obtain ⟨ra, rc, rb, hr⟩ := h.barg
  exact napart_walk w0 x y a len c ra rc rb hr
end Go.Proofs.Ytckoiabainpamaa
