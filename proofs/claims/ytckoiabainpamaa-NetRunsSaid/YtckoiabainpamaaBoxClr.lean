/-
  The contract of box.Clear. No condition.
-/
import Derived.Test.YtckoiabainpamaaBoxTw
import Derived.Deep.LoopGhost
namespace Go.Proofs.Ytckoiabainpamaa
open Go.RowKit
set_option maxRecDepth 100000
theorem clear_bx (w0 : World) (pb c cap : Nat) (qs : List (Option Addr × Nat × List UInt8)) (hs : (bxr pb c cap qs).sat w0) (hn : (bxr pb c cap qs).own.Nodup) :
    Calls Try.prog 36 #[.pointer (some ⟨pb, 0, none⟩)] w0 fun e w' => e = .returned (.tuple #[]) ∧ Inv (bxr pb c cap qs).own w0 w' [bxr pb c cap []] := by
  have hI := bxr_take hs hn
  clear hs hn
  generalize (bxr pb c cap qs).own = T at *
  go_enter Try.func36, Try.ntmps36
  go_wp2_with fail
  go_loopg [2, 3, 4, 5, 6, 7, 8, 9, 10] (qs.length) (fun kk s2 s3 s4 s5 s6 s7 s8 s9 s10 wr => ∃ rs : List (Option Addr × Nat × List UInt8), kk = rs.length ∧ Inv T w0 wr [bxr pb c cap rs])
  case atStart => exact ⟨qs, rfl, hI⟩
  case round =>
    clear hI
    obtain ⟨rs, rfl, hI⟩ := hrel
    match rs, hI with
    | [], hI =>
      go_wp2_with (first | ((with_reducible refine wpList_on  (by with_unfolding_all rfl) ?_)) | (go_at_call 25; refine (take_bx0 _ pb c cap (hI.sat _ (by (first | with_reducible exact mm0 | with_reducible exact mm1 | with_reducible exact mm2 | with_reducible exact mm3 | with_reducible exact mm4 | with_reducible exact mm5 | with_reducible exact mm6 | with_reducible exact mm7 | with_reducible exact mm8 | with_reducible exact mm9)))).mono ?_; rintro e w1 ⟨rfl, hw⟩; rw [hw]; clear hw))
      refine bodyPost_ret (results_none rfl _ _ _) rfl ?_
      exact ⟨rfl, hI⟩
    | (a0, c0, b0) :: rt, hI =>
      go_wp2_with (first | ((with_reducible refine wpList_on  (by with_unfolding_all rfl) ?_)) | (go_at_call 25; refine (take_bx _ pb c cap a0 c0 b0 rt (hI.sat _ (by (first | with_reducible exact mm0 | with_reducible exact mm1 | with_reducible exact mm2 | with_reducible exact mm3 | with_reducible exact mm4 | with_reducible exact mm5 | with_reducible exact mm6 | with_reducible exact mm7 | with_reducible exact mm8 | with_reducible exact mm9))) (hI.nd (by (first | with_reducible exact mm0 | with_reducible exact mm1 | with_reducible exact mm2 | with_reducible exact mm3 | with_reducible exact mm4 | with_reducible exact mm5 | with_reducible exact mm6 | with_reducible exact mm7 | with_reducible exact mm8 | with_reducible exact mm9)))).mono ?_; rintro e w1 ⟨rfl, hJ⟩; replace hI := hI.on2 hJ (by (first | with_reducible exact uu0 | with_reducible exact uu1 | with_reducible exact uu2 | with_reducible exact uu3 | with_reducible exact uu4 | with_reducible exact uu5 | with_reducible exact uu6 | with_reducible exact uu7 | with_reducible exact uu8 | with_reducible exact uu9)); clear hJ))
      go_roundg rt.length
      case measure => simp
      case rel => exact ⟨rt, rfl, hI.sub (.cons _ (.refl _))⟩
end Go.Proofs.Ytckoiabainpamaa
