/-
  The contract of legateelaw09.fit. No condition.
-/
import Derived.Test.YtckoiabainpamaaNet4
import Derived.Test.YtckoiabainpamaaLit
import Derived.Test.YtckoiabainpamaaBoxTurns
namespace Go.Proofs.Ytckoiabainpamaa
open Go.RowKit Go.Conc
set_option maxRecDepth 100000
set_option linter.unusedSimpArgs false
set_option linter.unusedVariables false
/-- what one way alone bears -/
def netOne (i : Nat) (v : List QE) : Nat → List QE := upf (fun _ => []) i v
theorem netOne_at (i : Nat) (v : List QE) : netOne i v i = v := upf_at _ _ _
theorem netOne_ne {i j : Nat} (v : List QE) (h : j ≠ i) : netOne i v j = [] := upf_ne _ _ h
theorem netOne_0 (i : Nat) : netOne i [] = fun _ => [] := by
  funext j; unfold netOne upf; split <;> rfl
theorem upf_upf {α : Type} (f : Nat → α) (i : Nat) (v u : α) : upf (upf f i v) i u = upf f i u := by
  funext j; unfold upf; split <;> rfl
theorem netOne_upf (i : Nat) (v u : List QE) : upf (netOne i v) i u = netOne i u := upf_upf _ _ _ _
theorem netOne_le {i : Nat} {v : List QE} (h : v.length ≤ 8) : ∀ j ∈ ways20, (netOne i v j).length ≤ 8 := fun j _ => by
  by_cases hj : j = i
  · subst hj; rw [netOne_at]; exact h
  · rw [netOne_ne v hj]; simp
theorem netOne_len {i : Nat} (hi : i ∈ ways20) (v : List QE) : lenTo (netOne i v) 25 = v.length := by
  have := lenTo_upf (fun _ => []) hi v
  rw [lenTo_none] at this
  simpa [netOne] using this
theorem rd_none (w : World) : Rd w none (([] : List UInt8).map bv) := fun j u hj => by simp at hj
theorem cell01 (pb : Nat → Nat) : cellTo pb 25 (0 * 5 + 1) = .pointer (some ⟨pb 1, 0, none⟩) := by unfold cellTo; rw [if_neg (by omega)]
theorem cell11 (pb : Nat → Nat) : cellTo pb 25 (1 * 5 + 1) = .pointer none := by unfold cellTo; rw [if_pos (by omega)]
theorem way01 (w0 : World) (p : Nat) (pb c : Nat → Nat) (q : Nat → List QE) (h : Inv (ntr 73 p pb c q).own w0 w0 [ntr 73 p pb c q]) :
    Calls Try.prog 32 #[.pointer (some ⟨p, 0, none⟩), .int .i64 0, .int .i64 1] w0 fun e w' => e = .returned (.pointer (some ⟨pb 1, 0, none⟩)) ∧ w' = w0 := by
  have h1 := way_at w0 p pb 0 1 (by decide) (by decide) (nopen h)
  rw [cell01] at h1
  exact h1
theorem way11 (w0 : World) (p : Nat) (pb c : Nat → Nat) (q : Nat → List QE) (h : Inv (ntr 73 p pb c q).own w0 w0 [ntr 73 p pb c q]) :
    Calls Try.prog 32 #[.pointer (some ⟨p, 0, none⟩), .int .i64 1, .int .i64 1] w0 fun e w' => e = .returned (.pointer none) ∧ w' = w0 := by
  have h1 := way_at w0 p pb 1 1 (by decide) (by decide) (nopen h)
  rw [cell11] at h1
  exact h1
theorem send01 (w0 : World) (p : Nat) (pb c : Nat → Nat) (q : Nat → List QE) (h : Inv (ntr 73 p pb c q).own w0 w0 [ntr 73 p pb c q]) (a : Option Addr) (cp : Nat) (hr : Rd w0 a ([120].map bv)) (hroom : (q 1).length < 8) :
    Calls Try.prog 30 #[.pointer (some ⟨p, 0, none⟩), .int .i64 0, .int .i64 1, .slice a 1 cp] w0 fun e w' => e = .returned (.bool true) ∧ ∃ a1 c1, Inv (ntr 73 p pb c q).own w0 w' [ntr 73 p pb c (upf q 1 (q 1 ++ [(a1, c1, [120])]))] :=
  send_way w0 p pb c q 0 1 1 (by decide) (by decide) rfl (by decide) h a cp [120] hr (by decide) hroom
theorem send01n (w0 : World) (p : Nat) (pb c : Nat → Nat) (q : Nat → List QE) (h : Inv (ntr 73 p pb c q).own w0 w0 [ntr 73 p pb c q]) (hfull : 8 ≤ (q 1).length) :
    Calls Try.prog 30 #[.pointer (some ⟨p, 0, none⟩), .int .i64 0, .int .i64 1, .slice none 0 0] w0 fun e w' => e = .returned (.bool false) ∧ Below w0.heap.size w0 w' :=
  send_full w0 p pb c q 0 1 1 (by decide) (by decide) rfl (by decide) h none 0 [] (rd_none _) (by decide) hfull
set_option maxHeartbeats 3200000 in
theorem fit09 (w0 : World) : Calls Try.prog 28 #[] w0 fun e w' => e = .returned (.bool true) ∧ Below w0.heap.size w0 w' := by
  have hI := Inv.start w0
  go_enter Try.func28, Try.ntmps28
  go_upto_region 5 with (first | ((with_reducible refine wpList_on  (by with_unfolding_all rfl) ?_)) | (go_at_call 29; refine (net_new _).mono ?_; rintro e w1 ⟨p, pb, c, rfl, hJ⟩; replace hI := hI.seq hJ; simp only [List.cons_append, List.nil_append] at hI; clear hJ))
  rw [← netOne_0 1] at hI
  go_loopg [6] 8 (fun kk i wr => ∃ (k : Nat) (v : List QE), kk = 8 - k ∧ k ≤ 8 ∧ i = .int .i64 k ∧ v.length = k ∧ Inv [] w0 wr [ntr 73 p pb c (netOne 1 v)])
  case atStart => exact ⟨0, [], by omega, by omega, rfl, rfl, hI⟩
  case round =>
    clear hI
    obtain ⟨k, v, rfl, hk, rfl, hv, hI⟩ := hrel
    by_cases hk8 : k < 8
    · have hroom : (netOne 1 v 1).length < 8 := by rw [netOne_at]; omega
      go_wp2_with (first | ((with_reducible refine wpList_on  (by with_unfolding_all rfl) ?_)) | (with_reducible refine wpList_lit (bs := [120]) hI slT22 Try.underlying5 (by decide) (by decide) (by with_unfolding_all rfl) (by with_unfolding_all rfl) (by with_unfolding_all rfl) ?_; clear hI; intro bl w hI hbl _; clear hbl) | (go_at_call 30; with_reducible refine (send01 _ p pb c _ (hI.at_ (by (first | with_reducible exact mm0 | with_reducible exact mm1 | with_reducible exact mm2 | with_reducible exact mm3 | with_reducible exact mm4 | with_reducible exact mm5 | with_reducible exact mm6 | with_reducible exact mm7 | with_reducible exact mm8 | with_reducible exact mm9))) _ _ (hI.rdr (by (first | with_reducible exact mm0 | with_reducible exact mm1 | with_reducible exact mm2 | with_reducible exact mm3 | with_reducible exact mm4 | with_reducible exact mm5 | with_reducible exact mm6 | with_reducible exact mm7 | with_reducible exact mm8 | with_reducible exact mm9))) hroom).mono ?_; rintro e w1 ⟨rfl, a1, c1, hJ⟩; replace hI := hI.on hJ (by (first | with_reducible exact uu0 | with_reducible exact uu1 | with_reducible exact uu2 | with_reducible exact uu3 | with_reducible exact uu4 | with_reducible exact uu5 | with_reducible exact uu6 | with_reducible exact uu7 | with_reducible exact uu8 | with_reducible exact uu9)); clear hJ))
      rw [netOne_at, netOne_upf] at hI
      go_roundg (8 - (k + 1))
      case measure => omega
      case rel => exact ⟨k + 1, v ++ [(a1, c1, [120])], by omega, by omega, by go_num, by simp [hv], hI.sub (.cons _ (.refl _))⟩
    · obtain rfl : k = 8 := by omega
      have hfull : 8 ≤ (netOne 1 v 1).length := by rw [netOne_at]; omega
      have hv8 : (netOne 1 v 1).length = 8 := by rw [netOne_at]; exact hv
      have hle8 := netOne_le (i := 1) (Nat.le_of_eq hv)
      have hln : lenTo (netOne 1 v) 25 = 8 := by rw [netOne_len (by decide)]; exact hv
      clear hv
      go_wp2_with (first | ((with_reducible refine wpList_on  (by with_unfolding_all rfl) ?_)) | (go_at_call 32; with_reducible refine (way01 _ p pb c _ (hI.at_ (by (first | with_reducible exact mm0 | with_reducible exact mm1 | with_reducible exact mm2 | with_reducible exact mm3 | with_reducible exact mm4 | with_reducible exact mm5 | with_reducible exact mm6 | with_reducible exact mm7 | with_reducible exact mm8 | with_reducible exact mm9)))).mono ?_; rintro e w1 ⟨rfl, hw⟩; rw [hw]; clear hw) | (go_at_call 27; with_reducible refine (nlen _ p pb c _ (i := 1) (by decide) (hI.sat _ (by (first | with_reducible exact mm0 | with_reducible exact mm1 | with_reducible exact mm2 | with_reducible exact mm3 | with_reducible exact mm4 | with_reducible exact mm5 | with_reducible exact mm6 | with_reducible exact mm7 | with_reducible exact mm8 | with_reducible exact mm9)))).mono ?_; rintro e w1 ⟨rfl, hw⟩; rw [hw]; clear hw; rw [hv8]) | (go_at_call 30; with_reducible refine (send01n _ p pb c _ (hI.at_ (by (first | with_reducible exact mm0 | with_reducible exact mm1 | with_reducible exact mm2 | with_reducible exact mm3 | with_reducible exact mm4 | with_reducible exact mm5 | with_reducible exact mm6 | with_reducible exact mm7 | with_reducible exact mm8 | with_reducible exact mm9))) hfull).mono ?_; rintro e w1 ⟨rfl, hw1⟩; replace hI := hI.call hw1; clear hw1) | (go_at_call 31; with_reducible refine (len_net _ p pb c _ hle8 (hI.at_ (by (first | with_reducible exact mm0 | with_reducible exact mm1 | with_reducible exact mm2 | with_reducible exact mm3 | with_reducible exact mm4 | with_reducible exact mm5 | with_reducible exact mm6 | with_reducible exact mm7 | with_reducible exact mm8 | with_reducible exact mm9)))).mono ?_; rintro e w1 ⟨rfl, hw1⟩; replace hI := hI.call hw1; clear hw1; rw [hln]) | (go_at_call 32; with_reducible refine (way11 _ p pb c _ (hI.at_ (by (first | with_reducible exact mm0 | with_reducible exact mm1 | with_reducible exact mm2 | with_reducible exact mm3 | with_reducible exact mm4 | with_reducible exact mm5 | with_reducible exact mm6 | with_reducible exact mm7 | with_reducible exact mm8 | with_reducible exact mm9)))).mono ?_; rintro e w1 ⟨rfl, hw⟩; rw [hw]; clear hw) | (go_at_call 22; refine (new_bx _ 1).mono ?_; rintro e w1 ⟨pb1, c1, rfl, hJ⟩; replace hI := hI.seq hJ; clear hJ))
      go_ret
      exact ⟨rfl, hI.below⟩
end Go.Proofs.Ytckoiabainpamaa
