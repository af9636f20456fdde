/-
  Contracts of package net: machine, Way. No condition.
-/
import Derived.Test.YtckoiabainpamaaNetRes
namespace Go.Proofs.Ytckoiabainpamaa
open Go.RowKit Go.Conc
set_option maxRecDepth 100000
set_option linter.unusedSimpArgs false
set_option linter.unusedVariables false
theorem one35 : OneT Try.prog 35 := ⟨by kernel_rfl, by kernel_rfl⟩
theorem mach_yes (w0 : World) (f : Nat) (hf : f < 5) : Calls Try.prog 39 #[.int .i64 f] w0 fun e w' => e = .returned (.bool true) ∧ w' = w0 := by
  have h1 : (0 : Int) ≤ (f : Int) := by omega
  have h2 : (f : Int) < 5 := by omega
  go_enter Try.func39, Try.ntmps39
  go_wp2_with fail
  go_ret
  exact ⟨rfl, rfl⟩
theorem mach_no (w0 : World) (z : Int) (hz : ¬ (0 ≤ z ∧ z < 5)) : Calls Try.prog 39 #[.int .i64 z] w0 fun e w' => e = .returned (.bool false) ∧ w' = w0 := by
  by_cases h1 : 0 ≤ z
  · have h2 : decide (z < 5) = false := by simp; omega
    have h3 : ¬ z < 5 := by omega
    clear hz
    go_enter Try.func39, Try.ntmps39
    go_wp2_with (first | ((with_reducible refine wpList_on  (by with_unfolding_all rfl) ?_)))
    go_ret
    exact ⟨by simp [h3], rfl⟩
  · have h3 : decide (0 ≤ z) = false := by simp; omega
    clear hz
    go_enter Try.func39, Try.ntmps39
    go_wp2_with (first | ((with_reducible refine wpList_on  (by with_unfolding_all rfl) ?_)))
    go_ret
    exact ⟨by simp [h1], rfl⟩
theorem way_no (w0 : World) (v : Value) (f t : Int) (h : ¬ (0 ≤ f ∧ f < 5 ∧ 0 ≤ t ∧ t < 5)) : Calls Try.prog 32 #[v, .int .i64 f, .int .i64 t] w0 fun e w' => e = .returned (.pointer none) ∧ w' = w0 := by
  by_cases hf : 0 ≤ f ∧ f < 5
  · have ht : ¬ (0 ≤ t ∧ t < 5) := fun ht => h ⟨hf.1, hf.2, ht.1, ht.2⟩
    obtain ⟨f, rfl⟩ : ∃ k : Nat, f = k := ⟨f.toNat, by omega⟩
    have hf0 : f < 5 := by omega
    clear h hf
    go_enter Try.func32, Try.ntmps32
    go_wp2_with (first | ((with_reducible refine wpList_on  (by with_unfolding_all rfl) ?_)) | (go_at_call 39; with_reducible refine (mach_no _ _ ht).mono ?_; rintro e w1 ⟨rfl, hw⟩; rw [hw]; clear hw) | (go_at_call 39; with_reducible refine (mach_yes _ f hf0).mono ?_; rintro e w1 ⟨rfl, hw⟩; rw [hw]; clear hw))
    go_ret
    exact ⟨rfl, rfl⟩
  · clear h
    go_enter Try.func32, Try.ntmps32
    go_wp2_with (first | ((with_reducible refine wpList_on  (by with_unfolding_all rfl) ?_)) | (go_at_call 39; with_reducible refine (mach_no _ _ hf).mono ?_; rintro e w1 ⟨rfl, hw⟩; rw [hw]; clear hw))
    go_ret
    exact ⟨rfl, rfl⟩
theorem way_at {T : List Nat} {w00 : World} {m : List Res} (w0 : World) (p : Nat) (pb : Nat → Nat) (f t : Nat) (hf0 : f < 5) (ht0 : t < 5) (hI : Inv T w00 w0 (blk p 73 (cellsTo pb 25) :: m)) :
    Calls Try.prog 32 #[.pointer (some ⟨p, 0, none⟩), .int .i64 f, .int .i64 t] w0 fun e w' => e = .returned (cellTo pb 25 (f * 5 + t)) ∧ w' = w0 := by
  have hcell : (cellsTo pb 25)[f * 5 + t]? = some (cellTo pb 25 (f * 5 + t)) := cellsTo_get _ _ (by omega)
  generalize cellTo pb 25 (f * 5 + t) = v at hcell
  go_enter Try.func32, Try.ntmps32
  go_wp2_with (first | ((with_reducible refine wpList_on  (by with_unfolding_all rfl) ?_)) | (go_at_call 39; with_reducible refine (mach_yes _ t ht0).mono ?_; rintro e w1 ⟨rfl, hw⟩; rw [hw]; clear hw) | (go_at_call 39; with_reducible refine (mach_yes _ f hf0).mono ?_; rintro e w1 ⟨rfl, hw⟩; rw [hw]; clear hw) | (with_reducible refine wpList_load_one hI (by with_unfolding_all rfl) (by (first | with_reducible exact mm0 | with_reducible exact mm1 | with_reducible exact mm2 | with_reducible exact mm3 | with_reducible exact mm4 | with_reducible exact mm5 | with_reducible exact mm6 | with_reducible exact mm7 | with_reducible exact mm8 | with_reducible exact mm9)) one35 hcell ?_))
  go_ret
  exact ⟨rfl, rfl⟩
end Go.Proofs.Ytckoiabainpamaa
