/-
  The contract of legateelaw10.fit. No condition.
-/
import Derived.Test.YtckoiabainpamaaLink
import Derived.Test.YtckoiabainpamaaLit
import Derived.Test.YtckoiabainpamaaSumParts
namespace Go.Proofs.Ytckoiabainpamaa
open Go.RowKit
set_option maxHeartbeats 800000 in
theorem fit10 (w0 : World) : Calls Try.prog 33 #[] w0 fun e w' => e = .returned (.bool true) ∧ Below w0.heap.size w0 w' := by
  have hI := Inv.start w0
  have hcn : crc (flat []) = 0 := crc_nil
  go_enter Try.func33, Try.ntmps33
  go_wp2_with (first | ((with_reducible refine wpList_on  (by with_unfolding_all rfl) ?_)) | (with_reducible refine wpList_lit (bs := [120]) hI slT22 Try.underlying5 (by decide) (by decide) (by with_unfolding_all rfl) (by with_unfolding_all rfl) (by with_unfolding_all rfl) ?_; clear hI; intro bl w hI hbl _; clear hbl) | (go_at_call 34; refine (frame_any _ _ _ 0 1 (by decide) (by decide) _ _ _ [120] rfl (hI.rdr (by (first | with_reducible exact mm0 | with_reducible exact mm1 | with_reducible exact mm2 | with_reducible exact mm3 | with_reducible exact mm4 | with_reducible exact mm5 | with_reducible exact mm6 | with_reducible exact mm7 | with_reducible exact mm8 | with_reducible exact mm9))) (by decide)).mono ?_; rintro e w1 ⟨g, rfl, hJ⟩; replace hI := hI.seq hJ; simp only [List.cons_append, List.nil_append] at hI; clear hJ) | (go_at_call 35; refine (open_z (open_some _ 0 1 _ _ _ (frameF 0 1 [120]) [120] (by rw [frameF_len]; first | done | rfl) (hI.rd (by (first | with_reducible exact mm0 | with_reducible exact mm1 | with_reducible exact mm2 | with_reducible exact mm3 | with_reducible exact mm4 | with_reducible exact mm5 | with_reducible exact mm6 | with_reducible exact mm7 | with_reducible exact mm8 | with_reducible exact mm9))) (by decide) (by decide) (open_frame 0 1 [120])) _ _ (by decide) (by decide)).mono ?_; rintro e w1 ⟨a2, c2, _, rfl, hrd2, hbl2⟩; replace hI := hI.call hbl2; clear hbl2) | (go_at_call 35; refine (open_z (open_none _ 1 0 _ _ _ (frameF 0 1 [120]) (by rw [frameF_len]; first | done | rfl) (hI.rd (by (first | with_reducible exact mm0 | with_reducible exact mm1 | with_reducible exact mm2 | with_reducible exact mm3 | with_reducible exact mm4 | with_reducible exact mm5 | with_reducible exact mm6 | with_reducible exact mm7 | with_reducible exact mm8 | with_reducible exact mm9))) (by decide) (by decide) (open_other [120] (by decide))) _ _ (by decide) (by decide)).mono ?_; rintro e w1 ⟨rfl, hbl2⟩; replace hrd2 := hrd2.below hbl2; replace hI := hI.call hbl2; clear hbl2) | (with_reducible refine wpList_tostr Try.underlying22 Try.underlying5 Try.underlying9 (by with_unfolding_all rfl) hrd2 (by with_unfolding_all rfl) ?_) | (go_at_call 18; refine (of_any _ _ [] 0 (fun h => absurd rfl h) (by simp [maxLen])).mono ?_; rintro e w1 ⟨rfl, rfl⟩))
  go_ret
  exact ⟨rfl, hI.below⟩
end Go.Proofs.Ytckoiabainpamaa
