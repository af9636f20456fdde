/-
  legateelaw14.fit. No condition.
-/
import Derived.Test.YthncfjfgjdeajaaMir
import Derived.Test.YthncfjfgjdeajaaRowOthers
namespace Go.Proofs.Ythncfjfgjdeajaa
open Go.RowKit
def rangeB (z : Int) : Bool := decide (-9223372036854775808 ≤ z) && decide (z ≤ 9223372036854775807)
theorem wf_of_all {l : List Int} (h : l.all rangeB = true) : Wf l := by
  intro i
  unfold gi
  rw [List.getD_eq_getElem?_getD]
  cases hz : l[i]? with
  | none => simp
  | some z =>
    have := List.all_eq_true.1 h z (List.mem_of_getElem? hz)
    simpa [rangeB] using this
set_option maxRecDepth 100000 in
set_option maxHeartbeats 3200000 in
theorem fit14 (w0 : World) : Calls Try.prog 25 #[] w0 fun e w' => e = .returned (.bool true) ∧ Below w0.heap.size w0 w' := by
  have hI := Inv.start w0
  have hn := nau_len 174
  have hz := nau_len 870
  have hb5 : (List.replicate 5 false).length = 5 := rfl
  have wf0 := wf_nau 174
  have v0 : gi (nau 174) 0 < 9223372036854775807 := by rw [gi_nau]; omega
  have m2 : machB 2 = true := rfl
  obtain ⟨X1, hX1⟩ : ∃ X, X = ((nau 174).set 1 1).set 0 1 := ⟨_, rfl⟩
  obtain ⟨X2, hX2⟩ : ∃ X, X = ((nau 174).set 1 2).set 0 2 := ⟨_, rfl⟩
  obtain ⟨Z1, hZ1⟩ : ∃ X, X = spl (nau 870) 348 X1 := ⟨_, rfl⟩
  obtain ⟨S1, hS1⟩ : ∃ X, X = (List.replicate 5 false).set 2 true := ⟨_, rfl⟩
  have p1 : putF (nau 174) (1 + (0 : Int).toNat * 7) 0 1 = (X1, 0) := by rw [hX1]; decide +kernel
  have p2 : Hid (putF X1 (1 + (0 : Int).toNat * 7) 0 1 = (X2, 0)) := Lib.hid (by rw [hX1, hX2]; decide +kernel)
  have l1 : X1.length = 174 := by rw [hX1]; simp [hn]
  have l2 : X2.length = 174 := by rw [hX2]; simp [hn]
  have wf1 : Hid (Wf X1) := Lib.hid (wf_of_all (by rw [hX1]; decide +kernel))
  have v1 : gi X1 0 < 9223372036854775807 := by rw [hX1]; decide +kernel
  have lz : Z1.length = 870 := by rw [hZ1, hX1]; decide +kernel
  have ls : S1.length = 5 := by rw [hS1]; rfl
  have k1 : Hid (keepB (nau 870) (List.replicate 5 false) 2 X1 = true) := Lib.hid (by rw [hX1]; decide +kernel)
  have z1 : Hid (keepZ (nau 870) (List.replicate 5 false) 2 X1 = Z1) := Lib.hid (by unfold keepZ; rw [k1.out, hZ1]; rfl)
  have r1 : Hid (rowOf Z1 2 = X1) := Lib.hid (by rw [hZ1, hX1]; decide +kernel)
  have s1 : Hid (sealB (List.replicate 5 false) 2 = S1) := Lib.hid (by rw [hS1]; rfl)
  have k2 : Hid (keepB Z1 S1 2 X2 = false) := Lib.hid (by unfold keepB; rw [hS1]; rfl)
  have z2 : Hid (keepZ Z1 S1 2 X2 = Z1) := Lib.hid (by unfold keepZ; rw [k2.out]; rfl)
  have i1 : Hid (isSealed S1 2 = true) := Lib.hid (by rw [hS1]; rfl)
  clear hX1 hX2 hZ1 hS1
  go_enter Try.func25, Try.ntmps25
  go_upto_region 2 with (first | ((with_reducible refine wpList_alloc_m hI (by first | with_reducible exact zm50) ?_); clear hI; intro bx w hI))
  (try simp only [Act.put, List.setIfInBounds_toArray, List.set_cons_succ, List.set_cons_zero])
  (obtain ⟨b1, hbx⟩ : ∃ b, b = bx := ⟨_, rfl⟩; subst hbx)
  go_wp2_with (first | ((with_reducible refine wpList_on  (by with_unfolding_all rfl) ?_)) | ((with_reducible refine wpList_load_iw hI (by with_unfolding_all rfl) (by first | with_reducible exact mm0 | with_reducible exact mm1 | with_reducible exact mm2 | with_reducible exact mm3 | with_reducible exact mm4 | with_reducible exact mm5 | with_reducible exact mm6 | with_reducible exact mm7 | with_reducible exact mm8 | with_reducible exact mm9) (by first | with_reducible exact agg22 | with_reducible exact agg24 | with_reducible exact agg25 | with_reducible exact agg26 | with_reducible exact agg28) (by (repeat (first | rw [List.length_set] | rw [nau_len] | rw [sub_len] | rw [spl_len])) <;> omega) ?_)) | ((with_reducible refine wpList_alloc_ia hI (by first | with_reducible exact zi22 | with_reducible exact zi24 | with_reducible exact zi25 | with_reducible exact zi26 | with_reducible exact zi28) ?_); clear hI; intro bx w hI) | ((with_reducible refine wpList_store_iw hI (by with_unfolding_all rfl) (by with_unfolding_all rfl) (by first | with_reducible exact uu0 | with_reducible exact uu1 | with_reducible exact uu2 | with_reducible exact uu3 | with_reducible exact uu4 | with_reducible exact uu5 | with_reducible exact uu6 | with_reducible exact uu7 | with_reducible exact uu8 | with_reducible exact uu9) (by first | with_reducible exact agg22 | with_reducible exact agg24 | with_reducible exact agg25 | with_reducible exact agg26 | with_reducible exact agg28) (by (repeat (first | rw [List.length_set] | rw [nau_len] | rw [sub_len] | rw [spl_len])) <;> omega) (by (repeat (first | rw [List.length_set] | rw [nau_len] | rw [sub_len] | rw [spl_len])) <;> omega) ?_); clear hI; intro w hI) | ((with_reducible refine wpList_build0_ia  (by first | with_reducible exact zi22 | with_reducible exact zi24 | with_reducible exact zi25 | with_reducible exact zi26 | with_reducible exact zi28) (by first | with_reducible exact kn22 | with_reducible exact kn24 | with_reducible exact kn25 | with_reducible exact kn26 | with_reducible exact kn28) ?_)) | ((with_reducible refine wpList_eq_ia  (by with_unfolding_all rfl) (by with_unfolding_all rfl) (by first | with_reducible exact agg22 | with_reducible exact agg24 | with_reducible exact agg25 | with_reducible exact agg26 | with_reducible exact agg28) (by first | with_reducible exact flatT22 | with_reducible exact flatT24 | with_reducible exact flatT25 | with_reducible exact flatT26 | with_reducible exact flatT28) (by (repeat (first | rw [List.length_set] | rw [nau_len] | rw [sub_len] | rw [spl_len])) <;> omega) (by (repeat (first | rw [List.length_set] | rw [nau_len] | rw [sub_len] | rw [spl_len])) <;> omega) ?_)) | (go_at_call 18; (with_reducible refine (inc_any _ (nau 174) 0 1 hn wf0 v0).mono ?_); rw [p1]; rintro e w1 ⟨rfl, hw1⟩; replace hI := hI.call hw1; clear hw1) | (go_at_call 18; (with_reducible refine (inc_any _ X1 0 1 l1 wf1.out v1).mono ?_); rw [p2.out]; rintro e w1 ⟨rfl, hw1⟩; replace hI := hI.call hw1; clear hw1) | (go_at_call 28; (with_reducible refine (mkeep_any _ b1 50 (nau 870) (List.replicate 5 false) hz hb5 (hI.mbk (by (first | with_reducible exact mm0 | with_reducible exact mm1 | with_reducible exact mm2 | with_reducible exact mm3 | with_reducible exact mm4 | with_reducible exact mm5 | with_reducible exact mm6 | with_reducible exact mm7 | with_reducible exact mm8 | with_reducible exact mm9))) 2 X1 l1).mono ?_); rw [k1.out, z1.out]; rintro e w1 ⟨rfl, hst, hbk⟩; replace hI := hI.mcall (by (first | with_reducible exact uu0 | with_reducible exact uu1 | with_reducible exact uu2 | with_reducible exact uu3 | with_reducible exact uu4 | with_reducible exact uu5 | with_reducible exact uu6 | with_reducible exact uu7 | with_reducible exact uu8 | with_reducible exact uu9)) hst hbk; clear hst hbk) | (go_at_call 26; (with_reducible refine (mseal_any _ b1 50 Z1 (List.replicate 5 false) lz hb5 (hI.mbk (by (first | with_reducible exact mm0 | with_reducible exact mm1 | with_reducible exact mm2 | with_reducible exact mm3 | with_reducible exact mm4 | with_reducible exact mm5 | with_reducible exact mm6 | with_reducible exact mm7 | with_reducible exact mm8 | with_reducible exact mm9))) 2).mono ?_); rw [r1.out, s1.out, m2]; rintro e w1 ⟨rfl, hst, hbk⟩; replace hI := hI.mcall (by (first | with_reducible exact uu0 | with_reducible exact uu1 | with_reducible exact uu2 | with_reducible exact uu3 | with_reducible exact uu4 | with_reducible exact uu5 | with_reducible exact uu6 | with_reducible exact uu7 | with_reducible exact uu8 | with_reducible exact uu9)) hst hbk; clear hst hbk) | (go_at_call 28; (with_reducible refine (mkeep_any _ b1 50 Z1 S1 lz ls (hI.mbk (by (first | with_reducible exact mm0 | with_reducible exact mm1 | with_reducible exact mm2 | with_reducible exact mm3 | with_reducible exact mm4 | with_reducible exact mm5 | with_reducible exact mm6 | with_reducible exact mm7 | with_reducible exact mm8 | with_reducible exact mm9))) 2 X2 l2).mono ?_); rw [k2.out, z2.out]; rintro e w1 ⟨rfl, hst, hbk⟩; replace hI := hI.mcall (by (first | with_reducible exact uu0 | with_reducible exact uu1 | with_reducible exact uu2 | with_reducible exact uu3 | with_reducible exact uu4 | with_reducible exact uu5 | with_reducible exact uu6 | with_reducible exact uu7 | with_reducible exact uu8 | with_reducible exact uu9)) hst hbk; clear hst hbk) | (go_at_call 30; (with_reducible refine (msealed_any _ b1 50 Z1 S1 lz ls (hI.mbk (by (first | with_reducible exact mm0 | with_reducible exact mm1 | with_reducible exact mm2 | with_reducible exact mm3 | with_reducible exact mm4 | with_reducible exact mm5 | with_reducible exact mm6 | with_reducible exact mm7 | with_reducible exact mm8 | with_reducible exact mm9))) 2).mono ?_); rw [i1.out]; rintro e w1 ⟨rfl, hst, hbk⟩; replace hI := hI.mcall (by (first | with_reducible exact uu0 | with_reducible exact uu1 | with_reducible exact uu2 | with_reducible exact uu3 | with_reducible exact uu4 | with_reducible exact uu5 | with_reducible exact uu6 | with_reducible exact uu7 | with_reducible exact uu8 | with_reducible exact uu9)) hst hbk; clear hst hbk))
  go_ret
  exact ⟨rfl, hI.below⟩
end Go.Proofs.Ythncfjfgjdeajaa
