/-
  legateelaw05.fit. No condition.
-/
import Derived.Test.YthncfjfgjdeajaaBook3
import Derived.Test.YthncfjfgjdeajaaRowGive
namespace Go.Proofs.Ythncfjfgjdeajaa
open Go.RowKit
set_option maxRecDepth 100000
theorem wf_all {l : List Int} (h : l.all (fun z => decide (-9223372036854775808 ≤ z) && decide (z ≤ 9223372036854775807)) = true) : Wf l := by
  intro i
  unfold gi
  rw [List.getD_eq_getElem?_getD]
  cases hz : l[i]? with
  | none => simp
  | some z =>
    have := List.all_eq_true.1 h z (List.mem_of_getElem? hz)
    simpa using this
set_option maxHeartbeats 3200000 in
theorem fit05 (w0 : World) : Calls Try.prog 31 #[] w0 fun e w' => e = .returned (.bool true) ∧ Below w0.heap.size w0 w' := by
  have hI := Inv.start w0
  have hn := nau_len 174
  have hz := nau_len 870
  have wf0 := wf_nau 174
  have v0 : gi (nau 174) 0 < 9223372036854775807 := by rw [gi_nau]; omega
  obtain ⟨X1, hX1⟩ : ∃ X, X = ((nau 174).set 1 5).set 0 1 := ⟨_, rfl⟩
  obtain ⟨X2, hX2⟩ : ∃ X, X = (((nau 174).set 1 5).set 4 2).set 0 2 := ⟨_, rfl⟩
  obtain ⟨M1, hM1⟩ : ∃ X, X = spl (nau 870) 0 X2 := ⟨_, rfl⟩
  have p1 : putF (nau 174) (1 + (0 : Int).toNat * 7) 0 5 = (X1, 0) := by rw [hX1]; decide +kernel
  have p2 : Hid (giveF X1 0 2 1 = (X2, 0)) := Lib.hid (by rw [hX1, hX2]; decide +kernel)
  have l1 : X1.length = 174 := by rw [hX1]; simp [hn]
  have l2 : X2.length = 174 := by rw [hX2]; simp [hn]
  have r1 : rowB X1 = true := by rw [hX1]; decide +kernel
  have v1 : gi X1 0 < 9223372036854775807 := by rw [hX1]; decide +kernel
  have k1 : Hid (mergeB (nau 870) 0 X2 = true) := Lib.hid (by rw [hX2]; decide +kernel)
  have z1 : Hid (mergeM (nau 870) 0 X2 = M1) := Lib.hid (by unfold mergeM; rw [k1.out, hM1]; rfl)
  have w2 : Wf X2 := wf_all (by rw [hX2]; decide +kernel)
  have bk1 : Hid (Bk M1) := Lib.hid (by rw [← z1.out]; exact Bk.start.merge 0 X2 l2 w2)
  have g0 : Hid (rightsF M1 0 0 = 3) := Lib.hid (by rw [hM1, hX2]; decide +kernel)
  have g1 : Hid (rightsF M1 1 0 = 2) := Lib.hid (by rw [hM1, hX2]; decide +kernel)
  have g2 : Hid (vTo M1 0 5 = 5) := Lib.hid (by rw [hM1, hX2]; decide +kernel)
  clear hX1 hX2 hM1 w2
  go_enter Try.func31, Try.ntmps31
  go_upto_region 2 with (first | ((with_reducible refine wpList_alloc_ia hI (by first | with_reducible exact zi22 | with_reducible exact zi24 | with_reducible exact zi25 | with_reducible exact zi26 | with_reducible exact zi28 | with_reducible exact zi73) ?_); clear hI; intro bx w hI))
  (try simp only [Act.put, List.setIfInBounds_toArray, List.set_cons_succ, List.set_cons_zero])
  (obtain ⟨b1, hbx⟩ : ∃ b, b = bx := ⟨_, rfl⟩; subst hbx)
  go_wp2_with (first | ((with_reducible refine wpList_on  (by with_unfolding_all rfl) ?_)) | ((with_reducible refine wpList_load_iw hI (by with_unfolding_all rfl) (by first | with_reducible exact mm0 | with_reducible exact mm1 | with_reducible exact mm2 | with_reducible exact mm3 | with_reducible exact mm4 | with_reducible exact mm5 | with_reducible exact mm6 | with_reducible exact mm7 | with_reducible exact mm8 | with_reducible exact mm9) (by first | with_reducible exact agg22 | with_reducible exact agg24 | with_reducible exact agg25 | with_reducible exact agg26 | with_reducible exact agg28) (by (repeat (first | rw [List.length_set] | rw [nau_len] | rw [sub_len] | rw [spl_len])) <;> omega) ?_)) | ((with_reducible refine wpList_alloc_ia hI (by first | with_reducible exact zi22 | with_reducible exact zi24 | with_reducible exact zi25 | with_reducible exact zi26 | with_reducible exact zi28 | with_reducible exact zi73) ?_); clear hI; intro bx w hI) | ((with_reducible refine wpList_store_iw hI (by with_unfolding_all rfl) (by with_unfolding_all rfl) (by first | with_reducible exact uu0 | with_reducible exact uu1 | with_reducible exact uu2 | with_reducible exact uu3 | with_reducible exact uu4 | with_reducible exact uu5 | with_reducible exact uu6 | with_reducible exact uu7 | with_reducible exact uu8 | with_reducible exact uu9) (by first | with_reducible exact agg22 | with_reducible exact agg24 | with_reducible exact agg25 | with_reducible exact agg26 | with_reducible exact agg28) (by (repeat (first | rw [List.length_set] | rw [nau_len] | rw [sub_len] | rw [spl_len])) <;> omega) (by (repeat (first | rw [List.length_set] | rw [nau_len] | rw [sub_len] | rw [spl_len])) <;> omega) ?_); clear hI; intro w hI) | ((with_reducible refine wpList_build0_ia  (by first | with_reducible exact zi22 | with_reducible exact zi24 | with_reducible exact zi25 | with_reducible exact zi26 | with_reducible exact zi28 | with_reducible exact zi73) (by first | with_reducible exact kn22 | with_reducible exact kn24 | with_reducible exact kn25 | with_reducible exact kn26 | with_reducible exact kn28 | with_reducible exact kn73) ?_)) | (go_at_call 18; (with_reducible refine (inc_any _ (nau 174) 0 5 hn wf0 v0).mono ?_); rw [p1]; rintro e w1 ⟨rfl, hw1⟩; replace hI := hI.call hw1; clear hw1) | (go_at_call 24; (with_reducible refine (give_any _ X1 0 2 1 l1 r1 v1).mono ?_); rw [p2.out]; rintro e w1 ⟨rfl, hw1⟩; replace hI := hI.call hw1; clear hw1) | (go_at_call 37; (with_reducible refine (merge_any _ b1 73 (nau 870) Bk.start (hI.ibk (by (first | with_reducible exact mm0 | with_reducible exact mm1 | with_reducible exact mm2 | with_reducible exact mm3 | with_reducible exact mm4 | with_reducible exact mm5 | with_reducible exact mm6 | with_reducible exact mm7 | with_reducible exact mm8 | with_reducible exact mm9))) 0 X2 l2).mono ?_); rw [k1.out, z1.out]; rintro e w1 ⟨rfl, hst, hbk⟩; replace hI := hI.icall (by (first | with_reducible exact uu0 | with_reducible exact uu1 | with_reducible exact uu2 | with_reducible exact uu3 | with_reducible exact uu4 | with_reducible exact uu5 | with_reducible exact uu6 | with_reducible exact uu7 | with_reducible exact uu8 | with_reducible exact uu9)) hst hbk; clear hst hbk) | (go_at_call 33; (with_reducible refine (rights_any _ b1 73 M1 bk1.out (hI.ibk (by (first | with_reducible exact mm0 | with_reducible exact mm1 | with_reducible exact mm2 | with_reducible exact mm3 | with_reducible exact mm4 | with_reducible exact mm5 | with_reducible exact mm6 | with_reducible exact mm7 | with_reducible exact mm8 | with_reducible exact mm9))) 0 0).mono ?_); rw [g0.out]; rintro e w1 ⟨rfl, hst, hbk⟩; replace hI := hI.icall (by (first | with_reducible exact uu0 | with_reducible exact uu1 | with_reducible exact uu2 | with_reducible exact uu3 | with_reducible exact uu4 | with_reducible exact uu5 | with_reducible exact uu6 | with_reducible exact uu7 | with_reducible exact uu8 | with_reducible exact uu9)) hst hbk; clear hst hbk) | (go_at_call 33; (with_reducible refine (rights_any _ b1 73 M1 bk1.out (hI.ibk (by (first | with_reducible exact mm0 | with_reducible exact mm1 | with_reducible exact mm2 | with_reducible exact mm3 | with_reducible exact mm4 | with_reducible exact mm5 | with_reducible exact mm6 | with_reducible exact mm7 | with_reducible exact mm8 | with_reducible exact mm9))) 1 0).mono ?_); rw [g1.out]; rintro e w1 ⟨rfl, hst, hbk⟩; replace hI := hI.icall (by (first | with_reducible exact uu0 | with_reducible exact uu1 | with_reducible exact uu2 | with_reducible exact uu3 | with_reducible exact uu4 | with_reducible exact uu5 | with_reducible exact uu6 | with_reducible exact uu7 | with_reducible exact uu8 | with_reducible exact uu9)) hst hbk; clear hst hbk) | (go_at_call 35; (with_reducible refine (value_any _ b1 73 M1 bk1.out (hI.ibk (by (first | with_reducible exact mm0 | with_reducible exact mm1 | with_reducible exact mm2 | with_reducible exact mm3 | with_reducible exact mm4 | with_reducible exact mm5 | with_reducible exact mm6 | with_reducible exact mm7 | with_reducible exact mm8 | with_reducible exact mm9))) 0).mono ?_); rw [g2.out]; rintro e w1 ⟨rfl, hst, hbk⟩; replace hI := hI.icall (by (first | with_reducible exact uu0 | with_reducible exact uu1 | with_reducible exact uu2 | with_reducible exact uu3 | with_reducible exact uu4 | with_reducible exact uu5 | with_reducible exact uu6 | with_reducible exact uu7 | with_reducible exact uu8 | with_reducible exact uu9)) hst hbk; clear hst hbk))
  go_ret
  exact ⟨rfl, hI.below⟩
end Go.Proofs.Ythncfjfgjdeajaa
