/-
  Contracts of link.Send and link.Take over the way from 2 to 3. No condition.
-/
import Derived.Test.YtckoiabainpamaaNetFit
import Derived.Test.YtckoiabainpamaaLinkAny
namespace Go.Proofs.Ytckoiabainpamaa
open Go.RowKit Go.Conc
set_option maxRecDepth 100000
set_option linter.unusedSimpArgs false
set_option linter.unusedVariables false
theorem cell23 (pb : Nat → Nat) : cellTo pb 25 (2 * 5 + 3) = .pointer (some ⟨pb 13, 0, none⟩) := by unfold cellTo; rw [if_neg (by omega)]
theorem cell22 (pb : Nat → Nat) : cellTo pb 25 (2 * 5 + 2) = .pointer none := by unfold cellTo; rw [if_pos (by omega)]
theorem way23 (w0 : World) (p : Nat) (pb c : Nat → Nat) (q : Nat → List QE) (h : Inv (ntr 73 p pb c q).own w0 w0 [ntr 73 p pb c q]) :
    Calls Try.prog 32 #[.pointer (some ⟨p, 0, none⟩), .int .i64 2, .int .i64 3] w0 fun e w' => e = .returned (.pointer (some ⟨pb 13, 0, none⟩)) ∧ w' = w0 := by
  have h1 := way_at w0 p pb 2 3 (by decide) (by decide) (nopen h)
  rw [cell23] at h1
  exact h1
theorem way22 (w0 : World) (p : Nat) (pb c : Nat → Nat) (q : Nat → List QE) (h : Inv (ntr 73 p pb c q).own w0 w0 [ntr 73 p pb c q]) :
    Calls Try.prog 32 #[.pointer (some ⟨p, 0, none⟩), .int .i64 2, .int .i64 2] w0 fun e w' => e = .returned (.pointer none) ∧ w' = w0 := by
  have h1 := way_at w0 p pb 2 2 (by decide) (by decide) (nopen h)
  rw [cell22] at h1
  exact h1
theorem send23 (w0 : World) (p : Nat) (pb c : Nat → Nat) (q : Nat → List QE) (h : Inv (ntr 73 p pb c q).own w0 w0 [ntr 73 p pb c q]) (a : Option Addr) (n cp : Nat) (bs : List UInt8) (hn : bs.length = n) (hr : Rd w0 a (bs.map bv)) (hl : n ≤ 100000) (hroom : (q 13).length < 8) :
    Calls Try.prog 30 #[.pointer (some ⟨p, 0, none⟩), .int .i64 2, .int .i64 3, .slice a n cp] w0 fun e w' => e = .returned (.bool true) ∧ ∃ a1 c1, Inv (ntr 73 p pb c q).own w0 w' [ntr 73 p pb c (upf q 13 (q 13 ++ [(a1, c1, bs)]))] := by
  subst hn
  exact send_way w0 p pb c q 2 3 13 (by decide) (by decide) rfl (by decide) h a cp bs hr hl hroom
theorem frame23 (w0 : World) (a : Option Addr) (n c : Nat) (bs : List UInt8) (hn : bs.length = n) (hr : Rd w0 a (bs.map bv)) (hl : n ≤ 90000) :
    Calls Try.prog 34 #[.int .i64 2, .int .i64 3, .slice a n c] w0 fun e w' => ∃ g, e = .returned (.slice (some ⟨g, 0, none⟩) (n + 6) (n + 6)) ∧ Inv [] w0 w' [osl 5 1 (.slice (some ⟨g, 0, none⟩) (n + 6) (n + 6)) (n + 6) ((frameF 2 3 bs).map bv)] :=
  frame_any w0 2 3 2 3 (by decide) (by decide) a n c bs hn hr hl
theorem lsend (w0 : World) (p : Nat) (pb c : Nat → Nat) (q : Nat → List QE) (h : Inv (ntr 73 p pb c q).own w0 w0 [ntr 73 p pb c q]) (a : Option Addr) (cp : Nat) (bs : List UInt8) (hr : Rd w0 a (bs.map bv)) (hl : bs.length ≤ 3000) (hroom : (q 13).length < 8) :
    Calls Try.prog 37 #[.pointer (some ⟨p, 0, none⟩), .int .i64 2, .int .i64 3, .slice a bs.length cp] w0 fun e w' => e = .returned (.bool true) ∧ ∃ a1 c1, Inv (ntr 73 p pb c q).own w0 w' [ntr 73 p pb c (upf q 13 (q 13 ++ [(a1, c1, frameF 2 3 bs)]))] := by
  have hI := h
  have hd : decide ((3000 : Int) < (bs.length : Int)) = false := by simp; omega
  have hr' := Lib.hid hr
  clear h hr
  go_enter Try.func37, Try.ntmps37
  have hr := hr'.out
  go_wp2_with (first | ((with_reducible refine wpList_on  (by with_unfolding_all rfl) ?_)) | (go_at_call 34; with_reducible refine (frame23 _ _ _ _ bs rfl hr (by omega)).mono ?_; rintro e w1 ⟨g, rfl, hJ⟩; replace hI := hI.seq hJ; simp only [List.cons_append, List.nil_append] at hI; clear hJ) | (go_at_call 30; with_reducible refine (send23 _ p pb c q (hI.at_ (by (first | with_reducible exact mm0 | with_reducible exact mm1 | with_reducible exact mm2 | with_reducible exact mm3 | with_reducible exact mm4 | with_reducible exact mm5 | with_reducible exact mm6 | with_reducible exact mm7 | with_reducible exact mm8 | with_reducible exact mm9))) _ _ _ (frameF 2 3 bs) (frameF_len 2 3 bs) (hI.rd (by (first | with_reducible exact mm0 | with_reducible exact mm1 | with_reducible exact mm2 | with_reducible exact mm3 | with_reducible exact mm4 | with_reducible exact mm5 | with_reducible exact mm6 | with_reducible exact mm7 | with_reducible exact mm8 | with_reducible exact mm9))) (by omega) hroom).mono ?_; rintro e w1 ⟨rfl, a1, c1, hJ⟩; replace hI := hI.on hJ (by (first | with_reducible exact uu0 | with_reducible exact uu1 | with_reducible exact uu2 | with_reducible exact uu3 | with_reducible exact uu4 | with_reducible exact uu5 | with_reducible exact uu6 | with_reducible exact uu7 | with_reducible exact uu8 | with_reducible exact uu9)); clear hJ))
  go_ret
  exact ⟨rfl, a1, c1, hI.sub (.cons _ (.refl _))⟩
theorem lsend_big (w0 : World) (p : Nat) (a : Option Addr) (n cp : Nat) (hn : 3000 < n) :
    Calls Try.prog 37 #[.pointer (some ⟨p, 0, none⟩), .int .i64 2, .int .i64 3, .slice a n cp] w0 fun e w' => e = .returned (.bool false) ∧ w' = w0 := by
  have hd : decide ((3000 : Int) < (n : Int)) = true := by simp; omega
  go_enter Try.func37, Try.ntmps37
  go_wp2_with (first | ((with_reducible refine wpList_on  (by with_unfolding_all rfl) ?_)))
  go_ret
  exact ⟨rfl, rfl⟩
theorem ltake_some (w0 : World) (p : Nat) (pb c : Nat → Nat) (q : Nat → List QE) (h : Inv (ntr 73 p pb c q).own w0 w0 [ntr 73 p pb c q]) (a0 : Option Addr) (c0 : Nat) (b0 r : List UInt8) (qt : List QE) (hq : q 13 = (a0, c0, b0) :: qt) (hl : b0.length ≤ 100000) (ho : openF 2 3 b0 = some r) :
    Calls Try.prog 38 #[.pointer (some ⟨p, 0, none⟩), .int .i64 2, .int .i64 3] w0 fun e w' => ∃ a2 c2, e = .returned (.tuple #[.slice a2 r.length c2, .bool true]) ∧ Rd w' a2 (r.map bv) ∧ Inv (ntr 73 p pb c q).own w0 w' [ntr 73 p pb c (upf q 13 qt)] := by
  have hI := h
  clear h
  replace ho := Lib.hid ho
  replace hq := Lib.hid hq
  go_enter Try.func38, Try.ntmps38
  replace ho := ho.out
  replace hq := hq.out
  go_wp2_with (first | ((with_reducible refine wpList_on  (by with_unfolding_all rfl) ?_)) | (go_at_call 32; with_reducible refine (way23 _ p pb c _ (hI.at_ (by (first | with_reducible exact mm0 | with_reducible exact mm1 | with_reducible exact mm2 | with_reducible exact mm3 | with_reducible exact mm4 | with_reducible exact mm5 | with_reducible exact mm6 | with_reducible exact mm7 | with_reducible exact mm8 | with_reducible exact mm9)))).mono ?_; rintro e w1 ⟨rfl, hw⟩; rw [hw]; clear hw) | (go_at_call 25; with_reducible refine (ntake _ p pb c q (i := 13) (by decide) (hI.at_ (by (first | with_reducible exact mm0 | with_reducible exact mm1 | with_reducible exact mm2 | with_reducible exact mm3 | with_reducible exact mm4 | with_reducible exact mm5 | with_reducible exact mm6 | with_reducible exact mm7 | with_reducible exact mm8 | with_reducible exact mm9))) a0 c0 b0 qt hq).mono ?_; rintro e w1 ⟨rfl, hJ⟩; replace hI := hI.on2 hJ (by (first | with_reducible exact uu0 | with_reducible exact uu1 | with_reducible exact uu2 | with_reducible exact uu3 | with_reducible exact uu4 | with_reducible exact uu5 | with_reducible exact uu6 | with_reducible exact uu7 | with_reducible exact uu8 | with_reducible exact uu9)); clear hJ; have hcap := osl_cap hI (by (first | with_reducible exact mm0 | with_reducible exact mm1 | with_reducible exact mm2 | with_reducible exact mm3 | with_reducible exact mm4 | with_reducible exact mm5 | with_reducible exact mm6 | with_reducible exact mm7 | with_reducible exact mm8 | with_reducible exact mm9))) | (go_at_call 35; (with_reducible refine (open_z (open_some _ 2 3 _ _ _ b0 r rfl (hI.rd (by (first | with_reducible exact mm0 | with_reducible exact mm1 | with_reducible exact mm2 | with_reducible exact mm3 | with_reducible exact mm4 | with_reducible exact mm5 | with_reducible exact mm6 | with_reducible exact mm7 | with_reducible exact mm8 | with_reducible exact mm9))) (by omega) (by omega) ho) 2 3 (by decide) (by decide)).mono ?_); rintro e w1 ⟨a2, c2, hc2, rfl, hrd, hbl⟩; replace hI := hI.call hbl; clear hbl))
  go_ret2
  exact ⟨a2, c2, rfl, hrd, hI.sub (.cons _ (.refl _))⟩
theorem ltake_none (w0 : World) (p : Nat) (pb c : Nat → Nat) (q : Nat → List QE) (h : Inv (ntr 73 p pb c q).own w0 w0 [ntr 73 p pb c q]) (a0 : Option Addr) (c0 : Nat) (b0 : List UInt8) (qt : List QE) (hq : q 13 = (a0, c0, b0) :: qt) (hl : b0.length ≤ 100000) (ho : openF 2 3 b0 = none) :
    Calls Try.prog 38 #[.pointer (some ⟨p, 0, none⟩), .int .i64 2, .int .i64 3] w0 fun e w' => e = .returned (.tuple #[.slice none 0 0, .bool false]) ∧ Inv (ntr 73 p pb c q).own w0 w' [ntr 73 p pb c (upf q 13 qt)] := by
  have hI := h
  clear h
  replace ho := Lib.hid ho
  replace hq := Lib.hid hq
  go_enter Try.func38, Try.ntmps38
  replace ho := ho.out
  replace hq := hq.out
  go_wp2_with (first | ((with_reducible refine wpList_on  (by with_unfolding_all rfl) ?_)) | (go_at_call 32; with_reducible refine (way23 _ p pb c _ (hI.at_ (by (first | with_reducible exact mm0 | with_reducible exact mm1 | with_reducible exact mm2 | with_reducible exact mm3 | with_reducible exact mm4 | with_reducible exact mm5 | with_reducible exact mm6 | with_reducible exact mm7 | with_reducible exact mm8 | with_reducible exact mm9)))).mono ?_; rintro e w1 ⟨rfl, hw⟩; rw [hw]; clear hw) | (go_at_call 25; with_reducible refine (ntake _ p pb c q (i := 13) (by decide) (hI.at_ (by (first | with_reducible exact mm0 | with_reducible exact mm1 | with_reducible exact mm2 | with_reducible exact mm3 | with_reducible exact mm4 | with_reducible exact mm5 | with_reducible exact mm6 | with_reducible exact mm7 | with_reducible exact mm8 | with_reducible exact mm9))) a0 c0 b0 qt hq).mono ?_; rintro e w1 ⟨rfl, hJ⟩; replace hI := hI.on2 hJ (by (first | with_reducible exact uu0 | with_reducible exact uu1 | with_reducible exact uu2 | with_reducible exact uu3 | with_reducible exact uu4 | with_reducible exact uu5 | with_reducible exact uu6 | with_reducible exact uu7 | with_reducible exact uu8 | with_reducible exact uu9)); clear hJ; have hcap := osl_cap hI (by (first | with_reducible exact mm0 | with_reducible exact mm1 | with_reducible exact mm2 | with_reducible exact mm3 | with_reducible exact mm4 | with_reducible exact mm5 | with_reducible exact mm6 | with_reducible exact mm7 | with_reducible exact mm8 | with_reducible exact mm9))) | (go_at_call 35; with_reducible refine (open_z (open_none _ 2 3 _ _ _ b0 rfl (hI.rd (by (first | with_reducible exact mm0 | with_reducible exact mm1 | with_reducible exact mm2 | with_reducible exact mm3 | with_reducible exact mm4 | with_reducible exact mm5 | with_reducible exact mm6 | with_reducible exact mm7 | with_reducible exact mm8 | with_reducible exact mm9))) (by omega) (by omega) ho) 2 3 (by decide) (by decide)).mono ?_; rintro e w1 ⟨rfl, hbl⟩; replace hI := hI.call hbl; clear hbl))
  go_ret2
  exact ⟨rfl, hI.sub (.cons _ (.refl _))⟩
theorem ltake_0 (w0 : World) (p : Nat) (pb c : Nat → Nat) (q : Nat → List QE) (h : Inv (ntr 73 p pb c q).own w0 w0 [ntr 73 p pb c q]) (hq : q 13 = []) :
    Calls Try.prog 38 #[.pointer (some ⟨p, 0, none⟩), .int .i64 2, .int .i64 3] w0 fun e w' => e = .returned (.tuple #[.slice none 0 0, .bool false]) ∧ w' = w0 := by
  have hI := h
  clear h
  go_enter Try.func38, Try.ntmps38
  go_wp2_with (first | ((with_reducible refine wpList_on  (by with_unfolding_all rfl) ?_)) | (go_at_call 32; with_reducible refine (way23 _ p pb c _ (hI.at_ (by (first | with_reducible exact mm0 | with_reducible exact mm1 | with_reducible exact mm2 | with_reducible exact mm3 | with_reducible exact mm4 | with_reducible exact mm5 | with_reducible exact mm6 | with_reducible exact mm7 | with_reducible exact mm8 | with_reducible exact mm9)))).mono ?_; rintro e w1 ⟨rfl, hw⟩; rw [hw]; clear hw) | (go_at_call 25; with_reducible refine (ntake0 _ p pb c q (i := 13) (by decide) (hI.sat _ (by (first | with_reducible exact mm0 | with_reducible exact mm1 | with_reducible exact mm2 | with_reducible exact mm3 | with_reducible exact mm4 | with_reducible exact mm5 | with_reducible exact mm6 | with_reducible exact mm7 | with_reducible exact mm8 | with_reducible exact mm9))) hq).mono ?_; rintro e w1 ⟨rfl, hw⟩; rw [hw]; clear hw))
  go_ret2
  exact ⟨rfl, rfl⟩
theorem ltake_22 (w0 : World) (p : Nat) (pb c : Nat → Nat) (q : Nat → List QE) (h : Inv (ntr 73 p pb c q).own w0 w0 [ntr 73 p pb c q]) :
    Calls Try.prog 38 #[.pointer (some ⟨p, 0, none⟩), .int .i64 2, .int .i64 2] w0 fun e w' => e = .returned (.tuple #[.slice none 0 0, .bool false]) ∧ w' = w0 := by
  have hI := h
  clear h
  go_enter Try.func38, Try.ntmps38
  go_wp2_with (first | ((with_reducible refine wpList_on  (by with_unfolding_all rfl) ?_)) | (go_at_call 32; with_reducible refine (way22 _ p pb c _ (hI.at_ (by (first | with_reducible exact mm0 | with_reducible exact mm1 | with_reducible exact mm2 | with_reducible exact mm3 | with_reducible exact mm4 | with_reducible exact mm5 | with_reducible exact mm6 | with_reducible exact mm7 | with_reducible exact mm8 | with_reducible exact mm9)))).mono ?_; rintro e w1 ⟨rfl, hw⟩; rw [hw]; clear hw))
  go_ret2
  exact ⟨rfl, rfl⟩
end Go.Proofs.Ytckoiabainpamaa
