/-
  The law LinkAny: its walk. No condition.
-/
import Derived.Test.YtckoiabainpamaaLinkFrames
namespace Go.Proofs.Ytckoiabainpamaa
open Go.RowKit
theorem frame_len2 (f t : UInt8) (b : List UInt8) : (frameF f t b).length = 2 + b.length + 4 := by rw [frameF_len]; omega
theorem drew_below (w : World) : Below w.heap.size w w.drew := ⟨rfl, rfl, rfl, Nat.le_refl _, fun _ _ => rfl⟩
set_option maxRecDepth 100000 in
set_option maxHeartbeats 1600000 in
theorem lany_walk (w0 : World) (a : Option Addr) (c : Nat) (bs : List UInt8) (z1 z2 : Int) (hr : Rd w0 a (bs.map bv)) (hc : bs.length ≤ c) :
    Calls Try.prog 13 #[.slice a bs.length c, .int .i64 z1, .int .i64 z2] w0 fun e w' => e = .returned (.bool true) ∧ Below w0.heap.size w0 w' := by
  have hI := Inv.start w0
  by_cases hbig : bs.length > 500
  · have hb : (500 : Int) < (bs.length : Int) := by omega
    go_enter Try.func13, Try.ntmps13
    go_wp2_with (first | (go_at_call 33; refine (fit10 _).mono ?_; rintro e w1 ⟨rfl, hw1⟩; replace hI := hI.call hw1; clear hw1))
    go_ret
    exact ⟨rfl, hI.below⟩
  · have hb : (bs.length : Int) ≤ 500 := by omega
    have hl : bs.length ≤ 100000 := by omega
    obtain ⟨f, hf⟩ := byte_of z1
    obtain ⟨t, ht⟩ := byte_of z2
    cases ho : openF f t bs with
    | none =>
      replace ho := Lib.hid ho
      go_enter Try.func13, Try.ntmps13
      go_wp2_with (first | (go_at_call 33; refine (fit10 _).mono ?_; rintro e w1 ⟨rfl, hw1⟩; replace hI := hI.call hw1; clear hw1) | (go_at_call 35; (with_reducible refine (open_none _ f t _ _ _ bs rfl (hI.rd0 hr) hc hl ho.out).mono ?_); rintro e w3 ⟨rfl, hw3⟩; replace hI := hI.call hw3; clear hw3))
      go_ret
      exact ⟨rfl, hI.below⟩
    | some r =>
      have hfo := frame_open ho
      have hrl : r.length ≤ 90000 := by have := frameF_len f t r; rw [hfo] at this; omega
      replace ho := Lib.hid ho
      replace hfo := Lib.hid hfo
      go_enter Try.func13, Try.ntmps13
      go_upto_region 9 with (first | (go_at_call 33; refine (fit10 _).mono ?_; rintro e w1 ⟨rfl, hw1⟩; replace hI := hI.call hw1; clear hw1) | (go_at_call 35; (with_reducible refine (open_some _ f t _ _ _ bs r rfl (hI.rd0 hr) hc hl ho.out).mono ?_); rintro e w3 ⟨a2, c2, _, rfl, hrd2, hw3⟩; replace hI := hI.call hw3; clear hw3))
      (try simp only [Act.put, List.setIfInBounds_toArray, List.set_cons_succ, List.set_cons_zero])
      refine wp_region_reg (C := fun w' => Inv [] w0 w' [] ∧ Rd w' a2 (r.map bv) ∧ w'.heap.size = w3.drew.heap.size) [3] (fun w' => Inv [] w0 w' []) ⟨hI.drew, hrd2.below (drew_below _), rfl⟩ (fun w h => h.1) mixed (by kernel_rfl) ?_
      clear hI hrd2
      generalize w3.drew.heap.size = H
      ((with_reducible apply wpReg_pure); rfl; rfl; (focus (intro D w hD hE; go_wp2_with (first | fail); (try simp only [Act.put, List.setIfInBounds_toArray, List.set_cons_succ, List.set_cons_zero]); exact ⟨rfl, rfl, hD⟩)); (first | exact ⟨_, rfl⟩ | exact ⟨undef, rfl⟩))
      (try simp only [Act.put, List.setIfInBounds_toArray, List.set_cons_succ, List.set_cons_zero])
      ((with_reducible apply wpReg_pure); rfl; rfl; (focus (intro D w hD hE; go_wp2_with (first | fail); (try simp only [Act.put, List.setIfInBounds_toArray, List.set_cons_succ, List.set_cons_zero]); exact ⟨rfl, rfl, hD⟩)); (first | exact ⟨_, rfl⟩ | exact ⟨undef, rfl⟩))
      (try simp only [Act.put, List.setIfInBounds_toArray, List.set_cons_succ, List.set_cons_zero])
      ((with_reducible apply wpReg_pure); rfl; rfl; (focus (intro D w hD hE; go_wp2_with (first | fail); (try simp only [Act.put, List.setIfInBounds_toArray, List.set_cons_succ, List.set_cons_zero]); exact ⟨rfl, rfl, hD⟩)); (first | exact ⟨_, rfl⟩ | exact ⟨undef, rfl⟩))
      (try simp only [Act.put, List.setIfInBounds_toArray, List.set_cons_succ, List.set_cons_zero])
      (with_reducible apply wpReg_store); rfl; rfl; rfl
      (focus
        rintro w ⟨hI, hrd, hH⟩
        go_wp2_with (go_at_call 34; refine (frame_x _ H hH _ _ f t rfl rfl a2 _ c2 r rfl hrd hrl).mono ?_; rintro e w4 ⟨rfl, hH4, hJ⟩; replace hI := hI.seq hJ; simp only [List.cons_append, List.nil_append] at hI; clear hJ)
        (try simp only [Act.put, List.setIfInBounds_toArray, List.set_cons_succ, List.set_cons_zero])
        exact ⟨rfl, rfl, hI⟩)
      exact ⟨_, rfl⟩
      (focus (intro w hI; exact Inv.sub hI (List.nil_sublist _)))
      (try simp only [Act.put, List.setIfInBounds_toArray, List.set_cons_succ, List.set_cons_zero])
      ((with_reducible apply wpReg_read); rfl; rfl; (focus (intro w hI0; have hI : Inv _ _ w _ := hI0; clear hI0; go_wp2_with (first | (with_reducible refine wpList_tostr Try.underlying22 Try.underlying5 Try.underlying9 (by with_unfolding_all rfl) (hI.rd (by (first | with_reducible exact mm0 | with_reducible exact mm1 | with_reducible exact mm2 | with_reducible exact mm3 | with_reducible exact mm4 | with_reducible exact mm5 | with_reducible exact mm6 | with_reducible exact mm7 | with_reducible exact mm8 | with_reducible exact mm9))) (frame_len2 _ _ _).symm ?_)); (try simp only [Act.put, List.setIfInBounds_toArray, List.set_cons_succ, List.set_cons_zero]); exact ⟨rfl, rfl, hI⟩)); exact ⟨_, rfl⟩)
      (try simp only [Act.put, List.setIfInBounds_toArray, List.set_cons_succ, List.set_cons_zero])
      ((with_reducible apply wpReg_pure); rfl; rfl; (focus (intro D w hD hE; go_wp2_with (first | fail); (try simp only [Act.put, List.setIfInBounds_toArray, List.set_cons_succ, List.set_cons_zero]); exact ⟨rfl, rfl, hD⟩)); (first | exact ⟨_, rfl⟩ | exact ⟨undef, rfl⟩))
      (try simp only [Act.put, List.setIfInBounds_toArray, List.set_cons_succ, List.set_cons_zero])
      ((with_reducible apply wpReg_pure); rfl; rfl; (focus (intro D w hD hE; go_wp2_with (first | (with_reducible refine wpList_tostr Try.underlying22 Try.underlying5 Try.underlying9 (by with_unfolding_all rfl) (hE.rd0 hr) rfl ?_)); (try simp only [Act.put, List.setIfInBounds_toArray, List.set_cons_succ, List.set_cons_zero]); exact ⟨rfl, rfl, hD⟩)); exact ⟨_, rfl⟩)
      (try simp only [Act.put, List.setIfInBounds_toArray, List.set_cons_succ, List.set_cons_zero])
      ((with_reducible apply wpReg_pure); rfl; rfl; (focus (intro D w hD hE; go_wp2_with (first | fail); (try simp only [Act.put, List.setIfInBounds_toArray, List.set_cons_succ, List.set_cons_zero]); exact ⟨rfl, rfl, hD⟩)); (first | exact ⟨_, rfl⟩ | exact ⟨undef, rfl⟩))
      (try simp only [Act.put, List.setIfInBounds_toArray, List.set_cons_succ, List.set_cons_zero])
      ((with_reducible apply wpReg_pure); rfl; rfl; (focus (intro D w hD hE; go_wp2_with (first | fail); (try simp only [Act.put, List.setIfInBounds_toArray, List.set_cons_succ, List.set_cons_zero]); exact ⟨rfl, rfl, hD⟩)); (first | exact ⟨_, rfl⟩ | exact ⟨undef, rfl⟩))
      (with_reducible refine wpReg_nil ?_)
      intro w hI
      (try simp only [Act.put, List.setIfInBounds_toArray, List.set_cons_succ, List.set_cons_zero])
      rw [hfo.out]
      go_wp2
      go_ret
      exact ⟨by simp, Inv.below hI⟩
end Go.Proofs.Ytckoiabainpamaa
