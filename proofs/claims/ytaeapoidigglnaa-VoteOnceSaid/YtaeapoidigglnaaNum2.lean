/-
  num.Most, legateelaw01.fit, and the laws NumSubs, NumHalves. No condition.
-/
import Derived.Test.YtaeapoidigglnaaNum
namespace Go.Proofs.Ytaeapoidigglnaa
open Go.RowKit

def mostB (p q : Int) : Bool := decide ((setTo q 5).length < 2 * (setTo (bits BinOp.and IntKind.i64 p q) 5).length)
theorem most_any (w0 : World) (p q : Int) : Calls Try.prog 25 #[.int .i64 p, .int .i64 q] w0 fun e w' => e = .returned (.bool (mostB p q)) ∧ Below w0.heap.size w0 w' := by
  have hI := Inv.start w0
  have h1 := setTo_len q 5
  have h2 := setTo_len (bits BinOp.and IntKind.i64 p q) 5
  have hm : Hid (decide ((((setTo q 5).length : Nat) : Int) < 2 * (((setTo (bits BinOp.and IntKind.i64 p q) 5).length : Nat) : Int)) = mostB p q) := Lib.hid (by
    unfold mostB
    rw [Bool.eq_iff_iff]
    simp only [decide_eq_true_eq]
    omega)
  go_enter Try.func25, Try.ntmps25
  go_wp2_with (first | (go_at_call 24; refine (set_any _ _).mono ?_; rintro e w1 ⟨a1, c1, rfl, hJ⟩; replace hI := hI.seq hJ; clear hJ))
  go_ret
  exact ⟨ret_bool hm.out, hI.below⟩

theorem add_two (w : World) (a : Option Addr) (c : Nat) (x y : Int) (hr : Rd w a [.int .i64 x, .int .i64 y]) :
    Calls Try.prog 23 #[.slice a 2 c] w fun e w' => e = .returned (.tuple #[.int .i64 (addF [x, y]).1, .int .i64 (addF [x, y]).2]) ∧ w' = w := add_any w a c [x, y] hr (by simp)
theorem fit01 (w0 : World) : Calls Try.prog 22 #[] w0 fun e w' => e = .returned (.bool true) ∧ Below w0.heap.size w0 w' := by
  have hI := Inv.start w0
  have hm1 : mostB 3 7 = true := by decide +kernel
  have hm2 : mostB 1 7 = false := by decide +kernel
  go_enter Try.func22, Try.ntmps22
  go_wp2_with (first | (with_reducible refine wpList_bslice2 hI slT39 (by with_unfolding_all rfl) (by with_unfolding_all rfl) ?_; clear hI; intro _ w hI) | (go_at_call 23; refine (add_two _ _ _ 2 3 (hI.rd (by (first | with_reducible exact List.mem_cons_self | with_reducible exact List.mem_cons_of_mem _ (List.mem_cons_self) | with_reducible exact List.mem_cons_of_mem _ (List.mem_cons_of_mem _ (List.mem_cons_self)) | with_reducible exact List.mem_cons_of_mem _ (List.mem_cons_of_mem _ (List.mem_cons_of_mem _ (List.mem_cons_self))) | with_reducible exact List.mem_cons_of_mem _ (List.mem_cons_of_mem _ (List.mem_cons_of_mem _ (List.mem_cons_of_mem _ (List.mem_cons_self)))) | with_reducible exact List.mem_cons_of_mem _ (List.mem_cons_of_mem _ (List.mem_cons_of_mem _ (List.mem_cons_of_mem _ (List.mem_cons_of_mem _ (List.mem_cons_self))))) | with_reducible exact List.mem_cons_of_mem _ (List.mem_cons_of_mem _ (List.mem_cons_of_mem _ (List.mem_cons_of_mem _ (List.mem_cons_of_mem _ (List.mem_cons_of_mem _ (List.mem_cons_self)))))) | with_reducible exact List.mem_cons_of_mem _ (List.mem_cons_of_mem _ (List.mem_cons_of_mem _ (List.mem_cons_of_mem _ (List.mem_cons_of_mem _ (List.mem_cons_of_mem _ (List.mem_cons_of_mem _ (List.mem_cons_self))))))) | with_reducible exact List.mem_cons_of_mem _ (List.mem_cons_of_mem _ (List.mem_cons_of_mem _ (List.mem_cons_of_mem _ (List.mem_cons_of_mem _ (List.mem_cons_of_mem _ (List.mem_cons_of_mem _ (List.mem_cons_of_mem _ (List.mem_cons_self)))))))) | with_reducible exact List.mem_cons_of_mem _ (List.mem_cons_of_mem _ (List.mem_cons_of_mem _ (List.mem_cons_of_mem _ (List.mem_cons_of_mem _ (List.mem_cons_of_mem _ (List.mem_cons_of_mem _ (List.mem_cons_of_mem _ (List.mem_cons_of_mem _ (List.mem_cons_self))))))))))))).mono ?_; rintro e w1 ⟨rfl, rfl⟩; rw [show addF [2, 3] = (5, 0) from by decide +kernel]) | (go_at_call 25; refine (most_any _ _ _).mono ?_; rintro e w1 ⟨rfl, hw1⟩; replace hI := hI.call hw1; clear hw1))
  go_ret
  exact ⟨rfl, hI.below⟩

set_option maxRecDepth 100000 in
set_option maxHeartbeats 1600000 in
theorem subs_walk (w0 : World) (a b : Int) : Calls Try.prog 10 #[.int .i64 a, .int .i64 b] w0 fun e w' => e = .returned (.bool true) ∧ Below w0.heap.size w0 w' := by
  have hI := Inv.start w0
  cases ha : rightB a
  · have hs : subF a b = (0, 5) := by simp [subF, ha]
    by_cases h0 : 0 ≤ a
    · have h1 : ¬ a ≤ 1099511627776 := by intro h; simp [rightB, h0, h] at ha
      go_enter Try.func10, Try.ntmps10
      go_wp2_with (first | (go_at_call 22; refine (fit01 _).mono ?_; rintro e w1 ⟨rfl, hw1⟩; replace hI := hI.call hw1; clear hw1) | (go_at_call 26; refine (sub_any _ _ _).mono ?_; rintro e w1 ⟨rfl, rfl⟩) | (go_at_call 27; refine (right_any _ _).mono ?_; rintro e w1 ⟨rfl, rfl⟩))
      go_ret
      exact ⟨rfl, hI.below⟩
    · go_enter Try.func10, Try.ntmps10
      go_wp2_with (first | (go_at_call 22; refine (fit01 _).mono ?_; rintro e w1 ⟨rfl, hw1⟩; replace hI := hI.call hw1; clear hw1) | (go_at_call 26; refine (sub_any _ _ _).mono ?_; rintro e w1 ⟨rfl, rfl⟩) | (go_at_call 27; refine (right_any _ _).mono ?_; rintro e w1 ⟨rfl, rfl⟩))
      go_ret
      exact ⟨rfl, hI.below⟩
  · have h1 := right_of ha
    cases hb : rightB b
    · have hs : subF a b = (0, 5) := by simp [subF, hb]
      go_enter Try.func10, Try.ntmps10
      go_wp2_with (first | (go_at_call 22; refine (fit01 _).mono ?_; rintro e w1 ⟨rfl, hw1⟩; replace hI := hI.call hw1; clear hw1) | (go_at_call 26; refine (sub_any _ _ _).mono ?_; rintro e w1 ⟨rfl, rfl⟩) | (go_at_call 27; refine (right_any _ _).mono ?_; rintro e w1 ⟨rfl, rfl⟩))
      go_ret
      exact ⟨rfl, hI.below⟩
    · have h2 := right_of hb
      by_cases hlt : a < b
      · have hs : subF a b = (0, 6) := by simp [subF, ha, hb, hlt]
        go_enter Try.func10, Try.ntmps10
        go_wp2_with (first | (go_at_call 22; refine (fit01 _).mono ?_; rintro e w1 ⟨rfl, hw1⟩; replace hI := hI.call hw1; clear hw1) | (go_at_call 26; refine (sub_any _ _ _).mono ?_; rintro e w1 ⟨rfl, rfl⟩) | (go_at_call 27; refine (right_any _ _).mono ?_; rintro e w1 ⟨rfl, rfl⟩))
        go_ret
        exact ⟨rfl, hI.below⟩
      · have hs : subF a b = (a - b, 0) := by simp [subF, ha, hb, hlt]
        have hadd : addF [a - b, b] = (a, 0) := by
          have e1 : rightB (a - b) = true := by simp [rightB]; omega
          have e2 : ¬ (1099511627776 - 0 < a - b) := by omega
          have e3 : ¬ (1099511627776 - (0 + (a - b)) < b) := by omega
          simp only [addF, addGo, e1, hb, if_true, if_neg e2, if_neg e3]
          congr 1; omega
        go_enter Try.func10, Try.ntmps10
        go_wp2_with (first | (go_at_call 22; refine (fit01 _).mono ?_; rintro e w1 ⟨rfl, hw1⟩; replace hI := hI.call hw1; clear hw1) | (go_at_call 26; refine (sub_any _ _ _).mono ?_; rintro e w1 ⟨rfl, rfl⟩) | (go_at_call 27; refine (right_any _ _).mono ?_; rintro e w1 ⟨rfl, rfl⟩) | (with_reducible refine wpList_bslice2 hI slT39 (by with_unfolding_all rfl) (by with_unfolding_all rfl) ?_; clear hI; intro _ w hI) | (go_at_call 23; refine (add_two _ _ _ (a - b) b (hI.rd (by (first | with_reducible exact List.mem_cons_self | with_reducible exact List.mem_cons_of_mem _ (List.mem_cons_self) | with_reducible exact List.mem_cons_of_mem _ (List.mem_cons_of_mem _ (List.mem_cons_self)) | with_reducible exact List.mem_cons_of_mem _ (List.mem_cons_of_mem _ (List.mem_cons_of_mem _ (List.mem_cons_self))) | with_reducible exact List.mem_cons_of_mem _ (List.mem_cons_of_mem _ (List.mem_cons_of_mem _ (List.mem_cons_of_mem _ (List.mem_cons_self)))) | with_reducible exact List.mem_cons_of_mem _ (List.mem_cons_of_mem _ (List.mem_cons_of_mem _ (List.mem_cons_of_mem _ (List.mem_cons_of_mem _ (List.mem_cons_self))))) | with_reducible exact List.mem_cons_of_mem _ (List.mem_cons_of_mem _ (List.mem_cons_of_mem _ (List.mem_cons_of_mem _ (List.mem_cons_of_mem _ (List.mem_cons_of_mem _ (List.mem_cons_self)))))) | with_reducible exact List.mem_cons_of_mem _ (List.mem_cons_of_mem _ (List.mem_cons_of_mem _ (List.mem_cons_of_mem _ (List.mem_cons_of_mem _ (List.mem_cons_of_mem _ (List.mem_cons_of_mem _ (List.mem_cons_self))))))) | with_reducible exact List.mem_cons_of_mem _ (List.mem_cons_of_mem _ (List.mem_cons_of_mem _ (List.mem_cons_of_mem _ (List.mem_cons_of_mem _ (List.mem_cons_of_mem _ (List.mem_cons_of_mem _ (List.mem_cons_of_mem _ (List.mem_cons_self)))))))) | with_reducible exact List.mem_cons_of_mem _ (List.mem_cons_of_mem _ (List.mem_cons_of_mem _ (List.mem_cons_of_mem _ (List.mem_cons_of_mem _ (List.mem_cons_of_mem _ (List.mem_cons_of_mem _ (List.mem_cons_of_mem _ (List.mem_cons_of_mem _ (List.mem_cons_self))))))))))))).mono ?_; rintro e w1 ⟨rfl, rfl⟩))
        go_ret
        exact ⟨rfl, hI.below⟩

/-- how many bits below 5 -/
theorem setTo_count (x : Int) : (setTo x 5).length = (bt x 0).toNat + (bt x 1).toNat + (bt x 2).toNat + (bt x 3).toNat + (bt x 4).toNat := by
  simp only [setTo_succ, List.length_append]
  have : (setTo x 0).length = 0 := rfl
  rw [this]
  cases bt x 0 <;> cases bt x 1 <;> cases bt x 2 <;> cases bt x 3 <;> cases bt x 4 <;> rfl
theorem and_le (p q : Bool) : (p && q).toNat ≤ q.toNat := by cases p <;> cases q <;> decide
theorem and3 (a b q : Bool) : (a && q).toNat + (b && q).toNat ≤ q.toNat + ((a && b) && q).toNat := by cases a <;> cases b <;> cases q <;> decide
theorem halves_law (a b q : Int) (h1 : mostB a q = true) (h2 : mostB b q = true) : (setTo (bits BinOp.and IntKind.i64 (bits BinOp.and IntKind.i64 a b) q) 5).length ≠ 0 := by
  simp only [mostB, decide_eq_true_eq, setTo_count, bt_and _ _ 0 (by decide), bt_and _ _ 1 (by decide), bt_and _ _ 2 (by decide), bt_and _ _ 3 (by decide), bt_and _ _ 4 (by decide)] at *
  have e0 := and3 (bt a 0) (bt b 0) (bt q 0)
  have e1 := and3 (bt a 1) (bt b 1) (bt q 1)
  have e2 := and3 (bt a 2) (bt b 2) (bt q 2)
  have e3 := and3 (bt a 3) (bt b 3) (bt q 3)
  have e4 := and3 (bt a 4) (bt b 4) (bt q 4)
  omega
theorem most_self (q : Int) : mostB q q = decide (0 < (setTo q 5).length) := by
  simp only [mostB, setTo_count, bt_and _ _ 0 (by decide), bt_and _ _ 1 (by decide), bt_and _ _ 2 (by decide), bt_and _ _ 3 (by decide), bt_and _ _ 4 (by decide), Bool.and_self]
  rw [Bool.eq_iff_iff]; simp only [decide_eq_true_eq]; omega
theorem bt_zero (i : Nat) : bt 0 i = false := by simp [bt]
theorem most_zero (q : Int) : mostB 0 q = false := by
  simp only [mostB, setTo_count, bt_and _ _ 0 (by decide), bt_and _ _ 1 (by decide), bt_and _ _ 2 (by decide), bt_and _ _ 3 (by decide), bt_and _ _ 4 (by decide), bt_zero, Bool.false_and]
  simp

set_option maxHeartbeats 1600000 in
theorem halves_walk (w0 : World) (a b q : Int) : Calls Try.prog 9 #[.int .i64 a, .int .i64 b, .int .i64 q] w0 fun e w' => e = .returned (.bool true) ∧ Below w0.heap.size w0 w' := by
  have hI := Inv.start w0
  have hz := most_zero q
  have hs : mostB q q = decide ((0 : Int) < ((setTo q 5).length : Nat)) := by
    rw [most_self, Bool.eq_iff_iff]; simp only [decide_eq_true_eq]; omega
  have hl := setTo_len q 5
  have hl2 := setTo_len (bits BinOp.and IntKind.i64 (bits BinOp.and IntKind.i64 a b) q) 5
  cases h1 : mostB a q
  · go_enter Try.func9, Try.ntmps9
    go_wp2_with (first | (go_at_call 22; refine (fit01 _).mono ?_; rintro e w1 ⟨rfl, hw1⟩; replace hI := hI.call hw1; clear hw1) | (go_at_call 25; refine (most_any _ _ _).mono ?_; rintro e w1 ⟨rfl, hw1⟩; replace hI := hI.call hw1; clear hw1) | (go_at_call 24; refine (set_any _ _).mono ?_; rintro e w1 ⟨a1, c1, rfl, hJ⟩; replace hI := hI.seq hJ; clear hJ))
    go_ret
    exact ⟨ret_bool (by simp), hI.below⟩
  · cases h2 : mostB b q
    · go_enter Try.func9, Try.ntmps9
      go_wp2_with (first | (go_at_call 22; refine (fit01 _).mono ?_; rintro e w1 ⟨rfl, hw1⟩; replace hI := hI.call hw1; clear hw1) | (go_at_call 25; refine (most_any _ _ _).mono ?_; rintro e w1 ⟨rfl, hw1⟩; replace hI := hI.call hw1; clear hw1) | (go_at_call 24; refine (set_any _ _).mono ?_; rintro e w1 ⟨a1, c1, rfl, hJ⟩; replace hI := hI.seq hJ; clear hJ))
      go_ret
      exact ⟨ret_bool (by simp), hI.below⟩
    · have hne := halves_law a b q h1 h2
      have hne2 : ((((setTo (bits BinOp.and IntKind.i64 (bits BinOp.and IntKind.i64 a b) q) 5).length : Nat) : Int) == 0) = false := by
        have : ¬ ((((setTo (bits BinOp.and IntKind.i64 (bits BinOp.and IntKind.i64 a b) q) 5).length : Nat) : Int) = 0) := by omega
        simpa using this
      clear hne
      go_enter Try.func9, Try.ntmps9
      go_wp2_with (first | (go_at_call 22; refine (fit01 _).mono ?_; rintro e w1 ⟨rfl, hw1⟩; replace hI := hI.call hw1; clear hw1) | (go_at_call 25; refine (most_any _ _ _).mono ?_; rintro e w1 ⟨rfl, hw1⟩; replace hI := hI.call hw1; clear hw1) | (go_at_call 24; refine (set_any _ _).mono ?_; rintro e w1 ⟨a1, c1, rfl, hJ⟩; replace hI := hI.seq hJ; clear hJ))
      go_ret
      exact ⟨ret_bool (by simp), hI.below⟩
end Go.Proofs.Ytaeapoidigglnaa
