/-
  The exact contract of sum.Put (where its bytes lie), and the law SumAny: its walk. Conditions: no more than 100000 bytes.
-/
import Derived.Test.YtckoiabainpamaaSumTakes
import Derived.Test.YtckoiabainpamaaExact
namespace Go.Proofs.Ytckoiabainpamaa
open Go.RowKit

set_option maxHeartbeats 800000 in
theorem put_x (w0 : World) (H : Nat) (hH : w0.heap.size = H) (a : Option Addr) (c : Nat) (bs : List UInt8) (hr : Rd w0 a (bs.map bv)) (hl : bs.length ≤ 100000) :
    Calls Try.prog 19 #[.slice a bs.length c] w0 fun e w' => e = .returned (.slice (some ⟨H + 1, 0, none⟩) (bs.length + 4) (bs.length + 4)) ∧ w'.heap.size = H + 3 ∧ Inv [] w0 w' [osl 5 1 (.slice (some ⟨H + 1, 0, none⟩) (bs.length + 4) (bs.length + 4)) (bs.length + 4) ((putF bs).map bv)] := by
  have hI := Inv.start w0
  have hl2 : bs.length ≤ maxLen := by simp only [maxLen]; omega
  have hf := flat1' a c bs
  have hle := Lib.hid (le4_bv (crc bs))
  have hH2 := Lib.hid hH
  clear hH
  go_enter Try.func19, Try.ntmps19
  have hH := hH2.out
  go_wp2_with (first | (with_reducible refine wpList_bslice1s_x hI hH slT39 (by with_unfolding_all rfl) ?_; clear hI hH; intro w hI hH) | (go_at_call 18; refine (of_any _ _ [⟨a, c, bs⟩] 1 (parts_one (hI.rd (by (first | with_reducible exact mm0 | with_reducible exact mm1 | with_reducible exact mm2 | with_reducible exact mm3 | with_reducible exact mm4 | with_reducible exact mm5 | with_reducible exact mm6 | with_reducible exact mm7 | with_reducible exact mm8 | with_reducible exact mm9))) (hI.rd0 hr) hl2) (by simp [maxLen])).mono ?_; rintro e w1 ⟨rfl, rfl⟩) | (with_reducible refine wpList_make0_x (c := bs.length + 4) hI hH slT22 (by with_unfolding_all rfl) (by with_unfolding_all rfl) (by omega) (by simp only [maxLen]; omega) ?_; clear hI hH; intro w hI hH) | (with_reducible refine wpList_append_x (q := bs.length) hI hH (by with_unfolding_all rfl) (by with_unfolding_all rfl) slT22 (by intro r'; exact Upd.here) (hI.rd0 hr) (by simp) (bv_one _) (by omega) ?_; clear hI hH; intro w hI hH; simp only [Nat.zero_add, List.nil_append] at hI; simp only [Nat.zero_add]) | (with_reducible refine wpList_bslice4i_x hI hH slT22 (by with_unfolding_all rfl) (by with_unfolding_all rfl) (by with_unfolding_all rfl) (by with_unfolding_all rfl) ?_; clear hI hH; intro w hI hH) | (with_reducible refine wpList_append_x (q := 4) hI hH (by with_unfolding_all rfl) (by with_unfolding_all rfl) slT22 (by intro r'; exact Upd.there Upd.here) (hI.rd (by (first | with_reducible exact mm0 | with_reducible exact mm1 | with_reducible exact mm2 | with_reducible exact mm3 | with_reducible exact mm4 | with_reducible exact mm5 | with_reducible exact mm6 | with_reducible exact mm7 | with_reducible exact mm8 | with_reducible exact mm9))) (by with_unfolding_all rfl) (by simp [Value.oneCell']) (by omega) ?_; clear hI hH; intro w hI hH))
  have hle2 := hle.out
  rw [← hle2, ← List.map_append] at hI
  go_ret
  exact ⟨rfl, hH, hI.sub (.cons _ (.cons_cons _ (.cons _ .slnil)))⟩

set_option maxRecDepth 100000 in
set_option maxHeartbeats 800000 in
theorem any_walk (w0 : World) (a : Option Addr) (c : Nat) (bs : List UInt8) (hr : Rd w0 a (bs.map bv)) (hc : bs.length ≤ c) :
    Calls Try.prog 7 #[.slice a bs.length c] w0 fun e w' => e = .returned (.bool true) ∧ Below w0.heap.size w0 w' := by
  have hI := Inv.start w0
  by_cases hbig : bs.length > 1000
  · have hb : (1000 : Int) < (bs.length : Int) := by omega
    go_enter Try.func7, Try.ntmps7
    go_wp2_with (first | (go_at_call 17; refine (fit2 _).mono ?_; rintro e w1 ⟨rfl, hw1⟩; replace hI := hI.call hw1; clear hw1))
    go_ret
    exact ⟨rfl, hI.below⟩
  · have hb : (bs.length : Int) ≤ 1000 := by omega
    have hl : bs.length ≤ 100000 := by omega
    cases ht : takeF bs with
    | none =>
      replace ht := Lib.hid ht
      go_enter Try.func7, Try.ntmps7
      go_wp2_with (first | (go_at_call 17; refine (fit2 _).mono ?_; rintro e w1 ⟨rfl, hw1⟩; replace hI := hI.call hw1; clear hw1) | (go_at_call 20; refine (take_none bs _ _ _ rfl ht.out (hI.rd0 hr) hc hl).mono ?_; rintro e w3 ⟨rfl, hw3⟩; replace hI := hI.call hw3; clear hw3))
      go_ret
      exact ⟨rfl, hI.below⟩
    | some t =>
      have hpt := put_take ht
      have htl : t.length + 4 = bs.length := by rw [← hpt, putF_len]
      have htl2 : t.length ≤ 100000 := by omega
      replace ht := Lib.hid ht
      replace hpt := Lib.hid hpt
      clear htl
      go_enter Try.func7, Try.ntmps7
      go_upto_region 8 with (first | (go_at_call 17; refine (fit2 _).mono ?_; rintro e w1 ⟨rfl, hw1⟩; replace hI := hI.call hw1; clear hw1) | (go_at_call 20; refine (take_some bs t _ _ _ rfl ht.out (hI.rd0 hr) hc hl).mono ?_; rintro e w3 ⟨a2, c2, rfl, hJ⟩; replace hI := hI.seq hJ; simp only [List.cons_append, List.nil_append] at hI; clear hJ))
      (try simp only [Act.put, List.setIfInBounds_toArray, List.set_cons_succ, List.set_cons_zero])
      refine wp_region_reg (C := fun w' => Inv [] w0 w' [osl 5 1 (.slice a2 t.length c2) t.length (t.map bv)] ∧ w'.heap.size = w3.drew.heap.size) [1] (fun w' => Inv [] w0 w' []) ⟨hI.drew, rfl⟩ (fun w h => h.1.sub (List.nil_sublist _)) mixed (by kernel_rfl) ?_
      clear hI
      generalize w3.drew.heap.size = H
      ((with_reducible apply wpReg_pure); rfl; rfl; (focus (intro D w hD hE; go_wp2_with (first | fail); (try simp only [Act.put, List.setIfInBounds_toArray, List.set_cons_succ, List.set_cons_zero]); exact ⟨rfl, rfl, hD⟩)); (first | exact ⟨_, rfl⟩ | exact ⟨undef, rfl⟩))
      (try simp only [Act.put, List.setIfInBounds_toArray, List.set_cons_succ, List.set_cons_zero])
      (with_reducible apply wpReg_store); rfl; rfl; rfl
      (focus
        rintro w ⟨hI, hH⟩
        go_wp2_with (go_at_call 19; refine (put_x _ H hH a2 c2 t (hI.rd (by (first | with_reducible exact mm0 | with_reducible exact mm1 | with_reducible exact mm2 | with_reducible exact mm3 | with_reducible exact mm4 | with_reducible exact mm5 | with_reducible exact mm6 | with_reducible exact mm7 | with_reducible exact mm8 | with_reducible exact mm9))) htl2).mono ?_; rintro e w4 ⟨rfl, hH4, hJ⟩; replace hI := hI.seq hJ; simp only [List.cons_append, List.nil_append] at hI; clear hJ)
        (try simp only [Act.put, List.setIfInBounds_toArray, List.set_cons_succ, List.set_cons_zero])
        exact ⟨rfl, rfl, hI⟩)
      exact ⟨_, rfl⟩
      (focus (intro w hI; exact Inv.sub hI (List.nil_sublist _)))
      (try simp only [Act.put, List.setIfInBounds_toArray, List.set_cons_succ, List.set_cons_zero])
      ((with_reducible apply wpReg_read); rfl; rfl; (focus (intro w hI0; have hI : Inv _ _ w _ := hI0; clear hI0; go_wp2_with (first | (with_reducible refine wpList_tostr Try.underlying22 Try.underlying5 Try.underlying9 (by with_unfolding_all rfl) (hI.rd (by (first | with_reducible exact mm0 | with_reducible exact mm1 | with_reducible exact mm2 | with_reducible exact mm3 | with_reducible exact mm4 | with_reducible exact mm5 | with_reducible exact mm6 | with_reducible exact mm7 | with_reducible exact mm8 | with_reducible exact mm9))) (putF_len _).symm ?_)); (try simp only [Act.put, List.setIfInBounds_toArray, List.set_cons_succ, List.set_cons_zero]); exact ⟨rfl, rfl, hI⟩)); exact ⟨_, rfl⟩)
      (try simp only [Act.put, List.setIfInBounds_toArray, List.set_cons_succ, List.set_cons_zero])
      ((with_reducible apply wpReg_pure); rfl; rfl; (focus (intro D w hD hE; go_wp2_with (first | fail); (try simp only [Act.put, List.setIfInBounds_toArray, List.set_cons_succ, List.set_cons_zero]); exact ⟨rfl, rfl, hD⟩)); (first | exact ⟨_, rfl⟩ | exact ⟨undef, rfl⟩))
      (try simp only [Act.put, List.setIfInBounds_toArray, List.set_cons_succ, List.set_cons_zero])
      ((with_reducible apply wpReg_pure); rfl; rfl; (focus (intro D w hD hE; go_wp2_with (first | (with_reducible refine wpList_tostr Try.underlying22 Try.underlying5 Try.underlying9 (by with_unfolding_all rfl) (hE.rd0 hr) rfl ?_)); (try simp only [Act.put, List.setIfInBounds_toArray, List.set_cons_succ, List.set_cons_zero]); exact ⟨rfl, rfl, hD⟩)); exact ⟨_, rfl⟩)
      (try simp only [Act.put, List.setIfInBounds_toArray, List.set_cons_succ, List.set_cons_zero])
      ((with_reducible apply wpReg_pure); rfl; rfl; (focus (intro D w hD hE; go_wp2_with (first | fail); (try simp only [Act.put, List.setIfInBounds_toArray, List.set_cons_succ, List.set_cons_zero]); exact ⟨rfl, rfl, hD⟩)); (first | exact ⟨_, rfl⟩ | exact ⟨undef, rfl⟩))
      (try simp only [Act.put, List.setIfInBounds_toArray, List.set_cons_succ, List.set_cons_zero])
      ((with_reducible apply wpReg_pure); rfl; rfl; (focus (intro D w hD hE; go_wp2_with (first | fail); (try simp only [Act.put, List.setIfInBounds_toArray, List.set_cons_succ, List.set_cons_zero]); exact ⟨rfl, rfl, hD⟩)); (first | exact ⟨_, rfl⟩ | exact ⟨undef, rfl⟩))
      (with_reducible refine wpReg_nil ?_)
      intro w hI
      (try simp only [Act.put, List.setIfInBounds_toArray, List.set_cons_succ, List.set_cons_zero])
      rw [hpt.out]
      go_wp2
      go_ret
      exact ⟨by simp, Inv.below hI⟩
end Go.Proofs.Ytckoiabainpamaa
