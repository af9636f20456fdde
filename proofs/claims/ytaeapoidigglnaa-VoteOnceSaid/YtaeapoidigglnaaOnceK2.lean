/-
  The law VoteOnce: a vow comes back. No condition.
-/
import Derived.Test.YtaeapoidigglnaaOnceMem
import Derived.Test.YtaeapoidigglnaaAnyC
import Derived.Test.YtaeapoidigglnaaViewLaw
import Derived.Test.YtaeapoidigglnaaVoteFit
import Derived.Deep.CutBlock
namespace Go.Proofs.Ytaeapoidigglnaa
open Go.RowKit
set_option maxRecDepth 100000
set_option linter.unusedSimpArgs false
set_option linter.unusedVariables false
set_option maxHeartbeats 6400000 in
theorem vo_k2 {Q : Exit → Act → World → Prop} {w0 w : World} {v : List Int} {b5 b7 n i a : Nat} {W : Nat → Int} {vt : Nat → Vt} {ac : Nat → Ac} {vw : Nat → Vw} {tk : Nat → Bool} {cs : List (List Int)} {pv : Nat → Nat} {x9 x10 x11 x12 x13 : Oth} {s0 s1 s2 s3 s4 s6 s8 s14 s15 s16 s17 s18 s22 s23 s24 s25 s26 s27 s28 s29 s30 s31 s32 s33 s34 s35 s36 s37 s38 s39 s40 s41 s42 s43 s44 s45 s46 s47 s48 s49 s50 s51 s52 s53 s54 s55 s56 s57 s58 s59 s60 s61 s62 s63 s64 s65 s66 s67 s68 s69 s70 s71 s72 s73 s74 s75 s76 s77 s78 s79 s80 s81 s82 s83 s84 s85 s86 s87 s88 s89 s90 s91 s92 s93 s94 s95 s96 s97 s98 s99 s100 s101 s102 s103 s104 s105 s106 s107 s108 s109 s110 s111 s112 s113 s114 s115 s116 s117 s118 s119 s121 s122 s123 s124 s125 s126 s127 s128 s129 s130 s131 s132 s133 s134 s135 s136 s137 s138 s139 s140 s141 s142 s143 s144 s145 s146 s147 s148 s149 s150 s151 s152 s153 s154 s155 s156 s157 s158 s159 s160 s161 s162 s163 s164 s165 s166 s167 s168 s169 s170 s171 s172 s173 s174 s175 s176 s177 s178 s179 s180 s181 s182 s183 s184 s185 s186 s187 s188 s189 s190 s191 s192 s193 s194 s195 s196 s197 s198 s199 s200 s201 s202 s203 s204 s205 s206 s207 s208 s209 s210 s211 s212 s213 s214 s215 s216 s217 s218 s219 s220 s221 s222 s223 s224 s225 s226 s227 s228 s229 s230 s231 s232 s233 s234 s235 s236 s237 s238 s239 : Value} (hv : v.length = 7) (hi : i < n) (ha : a < 5) (h : Hid (Once (gi v 1) W n vt ac vw tk cs))
    (hQ : ∀ (vt' : Nat → Vt) (wx : World) (u24 u25 u139 u140 u171 u172 u173 u174 u175 u176 u177 u178 u179 u180 u181 u182 u183 u184 u185 u186 u187 u188 u189 u190 u191 u192 u193 u194 : Value), Hid (Once (gi v 1) W n vt' ac vw tk cs) → Inv [] w0 wx (OMem b5 b7 v n W vt' ac vw tk cs pv x9 x10 x11 x12 x13) → Q .normal { tmps := #[s0, s1, s2, s3, s4, .pointer (some ⟨b5, 0, none⟩), s6, .pointer (some ⟨b7, 0, none⟩), s8, .slice x9.1 n x9.2, .slice x10.1 n x10.2, .slice x11.1 n x11.2, .slice x12.1 n x12.2, .slice x13.1 cs.length x13.2, s14, s15, s16, s17, s18, .int .i64 i, .int .i64 a, .pointer (some ⟨(pv i), 0, none⟩), s22, s23, u24, u25, s26, s27, s28, s29, s30, s31, s32, s33, s34, s35, s36, s37, s38, s39, s40, s41, s42, s43, s44, s45, s46, s47, s48, s49, s50, s51, s52, s53, s54, s55, s56, s57, s58, s59, s60, s61, s62, s63, s64, s65, s66, s67, s68, s69, s70, s71, s72, s73, s74, s75, s76, s77, s78, s79, s80, s81, s82, s83, s84, s85, s86, s87, s88, s89, s90, s91, s92, s93, s94, s95, s96, s97, s98, s99, s100, s101, s102, s103, s104, s105, s106, s107, s108, s109, s110, s111, s112, s113, s114, s115, s116, s117, s118, s119, .int .i64 2, s121, s122, s123, s124, s125, s126, s127, s128, s129, s130, s131, s132, s133, s134, s135, s136, s137, s138, u139, u140, s141, s142, s143, s144, s145, s146, s147, s148, s149, s150, s151, s152, s153, s154, s155, s156, s157, s158, s159, s160, s161, s162, s163, s164, s165, s166, s167, s168, s169, s170, u171, u172, u173, u174, u175, u176, u177, u178, u179, u180, u181, u182, u183, u184, u185, u186, u187, u188, u189, u190, u191, u192, u193, u194, s195, s196, s197, s198, s199, s200, s201, s202, s203, s204, s205, s206, s207, s208, s209, s210, s211, s212, s213, s214, s215, s216, s217, s218, s219, s220, s221, s222, s223, s224, s225, s226, s227, s228, s229, s230, s231, s232, s233, s234, s235, s236, s237, s238, s239], defers := [] } wx)
    (hQp : ∀ c (a a' : Act) w, a'.defers = a.defers → Q (.panic c) a' w → Q (.panic c) a w)
    (hI : Inv [] w0 w (OMem b5 b7 v n W vt ac vw tk cs pv x9 x10 x11 x12 x13)) : Code.wp Try.prog (nx (nx (nx (nx (nx (nx (nx (cblk (fs (nx (nx (lpb (cblk (nx (fs (nx (nx (nx (nx (nx (nx (nx (nx (nx (nx (nx (Try.f17.body.getD .skip))))))))))))))))))))))))))) Q { tmps := #[s0, s1, s2, s3, s4, .pointer (some ⟨b5, 0, none⟩), s6, .pointer (some ⟨b7, 0, none⟩), s8, .slice x9.1 n x9.2, .slice x10.1 n x10.2, .slice x11.1 n x11.2, .slice x12.1 n x12.2, .slice x13.1 cs.length x13.2, s14, s15, s16, s17, s18, .int .i64 i, .int .i64 a, .pointer (some ⟨(pv i), 0, none⟩), s22, s23, s24, s25, s26, s27, s28, s29, s30, s31, s32, s33, s34, s35, s36, s37, s38, s39, s40, s41, s42, s43, s44, s45, s46, s47, s48, s49, s50, s51, s52, s53, s54, s55, s56, s57, s58, s59, s60, s61, s62, s63, s64, s65, s66, s67, s68, s69, s70, s71, s72, s73, s74, s75, s76, s77, s78, s79, s80, s81, s82, s83, s84, s85, s86, s87, s88, s89, s90, s91, s92, s93, s94, s95, s96, s97, s98, s99, s100, s101, s102, s103, s104, s105, s106, s107, s108, s109, s110, s111, s112, s113, s114, s115, s116, s117, s118, s119, .int .i64 2, s121, s122, s123, s124, s125, s126, s127, s128, s129, s130, s131, s132, s133, s134, s135, s136, s137, s138, s139, s140, s141, s142, s143, s144, s145, s146, s147, s148, s149, s150, s151, s152, s153, s154, s155, s156, s157, s158, s159, s160, s161, s162, s163, s164, s165, s166, s167, s168, s169, s170, s171, s172, s173, s174, s175, s176, s177, s178, s179, s180, s181, s182, s183, s184, s185, s186, s187, s188, s189, s190, s191, s192, s193, s194, s195, s196, s197, s198, s199, s200, s201, s202, s203, s204, s205, s206, s207, s208, s209, s210, s211, s212, s213, s214, s215, s216, s217, s218, s219, s220, s221, s222, s223, s224, s225, s226, s227, s228, s229, s230, s231, s232, s233, s234, s235, s236, s237, s238, s239], defers := [] } w := by
  obtain ⟨q1, q2, q3, q4, q5⟩ := h.out.al a ha
  have hac := Lib.hid q1
  have haw := Lib.hid q4
  have hch := Lib.hid (h.out.vl i hi).1
  have hparts := vtZ_parts (v := v) W i hv hch.out
  have zl := Lib.hid hparts.1
  have z72 := Lib.hid hparts.2.2.1
  have z93 := Lib.hid hparts.2.2.2.1
  have hall : ∀ a, a < 5 → (ac a).c.length = 3 := fun a ha => (h.out.al a ha).1
  have hl40 := Lib.hid (lA_len (e := gi v 0) hall)
  have haa := Lib.hid (lA_at (e := gi v 0) hall (off := a * 8) ha rfl)
  have hvw := Lib.hid (vw_ok h.out)
  have him : i ∈ List.range n := List.mem_range.2 hi
  have hmem := Lib.hid (memB_nat (v := v) ha)
  have ha0 : (0 : Int) ≤ (a : Int) := by omega
  have ha1 : (a : Int) < 5 := by omega
  have hi0 : (0 : Int) ≤ (i : Int) := by omega
  have hi1 : (i : Int) < (n : Int) := by omega
  clear hparts q1 q2 q3 q4 q5 hall
  unfold OMem at hI
  replace hI := vote_out him hI
  rw [show fvt v W vt pv i = ibb (pv i) 92 (vtZ v W i (vt i)) [(vt i).P] from rfl] at hI
  obtain ⟨a10, c10⟩ := x10
  dsimp only at hI
  obtain ⟨g10, rfl⟩ := osl_some (a' := a10) (n' := n) (c := c10) (e := 88) (size := 30) (n := n) (xs := lV n vw) hI mm2 (by rw [lV_len (vw_ok h.out)]; omega)
  have hl30 := Lib.hid (lV_len (vw_ok h.out))
  have hvat := Lib.hid (lV_at (vw_ok h.out) (off := i * 30 + a * 6) hi ha rfl)
  obtain ⟨y1, y2⟩ := h.out.vi i a hi ha
  have hyc := Lib.hid y1
  have hy2 := Lib.hid y2
  have hz5 : ([((vw (i * 5 + a)).h : Int), (vw (i * 5 + a)).hw] ++ (vw (i * 5 + a)).c).length = 5 := by simp [y1]
  have hz5n : (nau 5).length = 5 := rfl
  have hgb : gb [(vw (i * 5 + a)).t] 0 = (vw (i * 5 + a)).t := rfl
  have hbw := Lib.hid (fun h0 => ((h.out.bs i hi).2 h0).1)
  clear y1 y2
  dsimp only [nx, fs, cblk, lpb, Try.f17, Option.getD]
  go_upto_region 39 with (first | (with_reducible refine wpList_load_osa hI (by with_unfolding_all rfl) (by (first | with_reducible exact mm0 | with_reducible exact mm1 | with_reducible exact mm2 | with_reducible exact mm3 | with_reducible exact mm4 | with_reducible exact mm5 | with_reducible exact mm6 | with_reducible exact mm7 | with_reducible exact mm8 | with_reducible exact mm9)) agg87 (by rw [hl30.out]; omega) hvat.out ?_) | ((with_reducible refine wpList_alloc_m hI (by first | with_reducible exact zm87) ?_); clear hI; intro bx w hI) | (with_reducible refine wpList_store_vw hI (by with_unfolding_all rfl) (by with_unfolding_all rfl) (by (first | with_reducible exact uu0 | with_reducible exact uu1 | with_reducible exact uu2 | with_reducible exact uu3 | with_reducible exact uu4 | with_reducible exact uu5 | with_reducible exact uu6 | with_reducible exact uu7 | with_reducible exact uu8 | with_reducible exact uu9)) (by with_unfolding_all rfl) (by with_unfolding_all rfl) hyc.out ?_; clear hI; intro w hI))
  cases ht : (vw (i * 5 + a)).t
  · rw [ht] at hgb hI
    go_wp2_with (first | (with_reducible refine wpList_load_mbv hI (by with_unfolding_all rfl) (by (first | with_reducible exact mm0 | with_reducible exact mm1 | with_reducible exact mm2 | with_reducible exact mm3 | with_reducible exact mm4 | with_reducible exact mm5 | with_reducible exact mm6 | with_reducible exact mm7 | with_reducible exact mm8 | with_reducible exact mm9)) (by exact one4) (by rw [hz5]) (by simp) hgb ?_))
    exact hQ vt _ _ _ _ _ _ _ _ _ _ _ _ _ _ _ _ _ _ _ _ _ _ _ _ _ _ _ _ _ h (vote_in rfl List.nodup_range him (fun _ _ _ => rfl) (hI.sub (.cons _ (.refl _))))
  · rw [ht] at hgb hI
    obtain ⟨g1, g2, g3, g4, g5, g6⟩ := hy2.out ht
    have hbm := Lib.hid g2
    have hyw := Lib.hid (fun h0 => (g4 h0).1)
    have hs23 := Lib.hid (show sub ([((vw (i * 5 + a)).h : Int), (vw (i * 5 + a)).hw] ++ (vw (i * 5 + a)).c) 2 3 = (vw (i * 5 + a)).c by
      simp [sub, List.take_of_length_le (Nat.le_of_eq hyc.out)])
    replace ht := Lib.hid ht
    clear g1 g2 g3 g4 g5 g6
    go_upto_region 41 with (first | (with_reducible refine wpList_load_mbv hI (by with_unfolding_all rfl) (by (first | with_reducible exact mm0 | with_reducible exact mm1 | with_reducible exact mm2 | with_reducible exact mm3 | with_reducible exact mm4 | with_reducible exact mm5 | with_reducible exact mm6 | with_reducible exact mm7 | with_reducible exact mm8 | with_reducible exact mm9)) (by exact one4) (by rw [hz5]) (by simp) hgb ?_) | (go_at_call 33; (with_reducible refine (putting_any _ (pv i) 92 (vtZ v W i (vt i)) (vt i).P zl.out (hI.mbk (by (first | with_reducible exact mm0 | with_reducible exact mm1 | with_reducible exact mm2 | with_reducible exact mm3 | with_reducible exact mm4 | with_reducible exact mm5 | with_reducible exact mm6 | with_reducible exact mm7 | with_reducible exact mm8 | with_reducible exact mm9)))).mono ?_); rintro e w1 ⟨rfl, hst, hbk⟩; replace hI := hI.mcall (by (first | with_reducible exact uu0 | with_reducible exact uu1 | with_reducible exact uu2 | with_reducible exact uu3 | with_reducible exact uu4 | with_reducible exact uu5 | with_reducible exact uu6 | with_reducible exact uu7 | with_reducible exact uu8 | with_reducible exact uu9)) hst hbk; clear hst hbk))
    cases hP : (vt i).P
    · refine region_anyC (fun w => Inv [] w0 w ([ibb bx 87 ([((vw (i * 5 + a)).h : Int), (vw (i * 5 + a)).hw] ++ (vw (i * 5 + a)).c) [true]])) mixed ?_
      replace hI := hI.drew
      change anyC _ _ _ _ _ _ _ _ w1.drew
      revert hI
      generalize w1.drew = w9
      intro hI
      (refine anyC_take (i := 0) (v := ?_) rfl (by kernel_rfl) (by kernel_rfl) (by kernel_rfl) (fun c a w hp => hQp c a _ w (by rfl) hp) ⟨by rfl, ?_⟩ ?_; rotate_left; focus (intro w _; go_simp; with_reducible rfl))
      (simp only [Act.put, List.getElem_toArray, List.getElem_cons_succ, List.getElem_cons_zero, List.setIfInBounds_toArray, List.set_cons_succ, List.set_cons_zero])
      (refine anyC_take (i := 1) (v := ?_) rfl (by kernel_rfl) (by kernel_rfl) (by kernel_rfl) (fun c a w hp => hQp c a _ w (by rfl) hp) ⟨by rfl, ?_⟩ ?_; rotate_left; focus (intro w _; go_simp; with_reducible rfl))
      (simp only [Act.put, List.getElem_toArray, List.getElem_cons_succ, List.getElem_cons_zero, List.setIfInBounds_toArray, List.set_cons_succ, List.set_cons_zero])
      (refine anyC_take (i := 2) (v := ?_) rfl (by kernel_rfl) (by kernel_rfl) (by kernel_rfl) (fun c a w hp => hQp c a _ w (by rfl) hp) ⟨by rfl, ?_⟩ ?_; rotate_left; focus (intro w _; go_simp; with_reducible rfl))
      (simp only [Act.put, List.getElem_toArray, List.getElem_cons_succ, List.getElem_cons_zero, List.setIfInBounds_toArray, List.set_cons_succ, List.set_cons_zero])
      (refine anyC_take (i := 4) (v := ?_) rfl (by kernel_rfl) (by kernel_rfl) (by kernel_rfl) (fun c a w hp => hQp c a _ w (by rfl) hp) ⟨by rfl, ?_⟩ ?_; rotate_left; focus (intro w _; go_simp; with_reducible rfl))
      (simp only [Act.put, List.getElem_toArray, List.getElem_cons_succ, List.getElem_cons_zero, List.setIfInBounds_toArray, List.set_cons_succ, List.set_cons_zero])
      refine anyC_take (i := 5) (v := ia [((vw (i * 5 + a)).h : Int), (vw (i * 5 + a)).hw]) rfl (by kernel_rfl) (by kernel_rfl) (by kernel_rfl) (fun c a w hp => hQp c a _ w (by rfl) hp) ⟨by rfl, fun w hC => yld_load_mia hC (by with_unfolding_all rfl) mm0 agg25 (by omega) rfl⟩ ?_
      (simp only [Act.put, List.getElem_toArray, List.getElem_cons_succ, List.getElem_cons_zero, List.setIfInBounds_toArray, List.set_cons_succ, List.set_cons_zero])
      (refine anyC_take (i := 6) (v := ?_) rfl (by kernel_rfl) (by kernel_rfl) (by kernel_rfl) (fun c a w hp => hQp c a _ w (by rfl) hp) ⟨by rfl, ?_⟩ ?_; rotate_left; focus (intro w _; go_simp; with_reducible rfl))
      (simp only [Act.put, List.getElem_toArray, List.getElem_cons_succ, List.getElem_cons_zero, List.setIfInBounds_toArray, List.set_cons_succ, List.set_cons_zero])
      refine anyC_take (i := 7) (v := ia (vw (i * 5 + a)).c) rfl (by kernel_rfl) (by kernel_rfl) (by kernel_rfl) (fun c a w hp => hQp c a _ w (by rfl) hp) ⟨by rfl, fun w hC => yld_load_mia hC (by with_unfolding_all rfl) mm0 agg27 (by omega) hs23.out⟩ ?_
      (simp only [Act.put, List.getElem_toArray, List.getElem_cons_succ, List.getElem_cons_zero, List.setIfInBounds_toArray, List.set_cons_succ, List.set_cons_zero])
      refine anyC_one (i := 3) (by kernel_rfl) (hI.sub (.cons_cons _ (List.nil_sublist _))) ?_
      refine anyC_stepl (i := 3) (by rfl) (by with_unfolding_all rfl) ?_
      go_wp2_with (first | (go_at_call 35; (with_reducible refine (ballot_any _ (pv i) 92 (vtZ v W i (vt i)) (vt i).P zl.out (hI.mbk (by (first | with_reducible exact mm0 | with_reducible exact mm1 | with_reducible exact mm2 | with_reducible exact mm3 | with_reducible exact mm4 | with_reducible exact mm5 | with_reducible exact mm6 | with_reducible exact mm7 | with_reducible exact mm8 | with_reducible exact mm9)))).mono ?_); rw [z72.out]; rintro e w1 ⟨rfl, hst, hbk⟩; replace hI := hI.mcall (by (first | with_reducible exact uu0 | with_reducible exact uu1 | with_reducible exact uu2 | with_reducible exact uu3 | with_reducible exact uu4 | with_reducible exact uu5 | with_reducible exact uu6 | with_reducible exact uu7 | with_reducible exact uu8 | with_reducible exact uu9)) hst hbk; clear hst hbk))
      refine kpost_mk ?_
      refine anyC_one (i := 8) (by kernel_rfl) (hI.sub (.cons_cons _ (List.nil_sublist _))) ?_
      refine anyC_stepl (i := 8) (by rfl) (by with_unfolding_all rfl) ?_
      go_wp2_with (first | (go_at_call 31; (with_reducible refine (vowed_v_no _ (pv i) (y := vw (i * 5 + a)) W i hv hch.out hP hyc.out ha hbm.out hbw.out hyw.out (hI.mbk (by (first | with_reducible exact mm0 | with_reducible exact mm1 | with_reducible exact mm2 | with_reducible exact mm3 | with_reducible exact mm4 | with_reducible exact mm5 | with_reducible exact mm6 | with_reducible exact mm7 | with_reducible exact mm8 | with_reducible exact mm9)))).mono ?_); rintro e w1 ⟨x', rfl, hst, hbk, hx'⟩; replace hI := hI.mcall (by (first | with_reducible exact uu0 | with_reducible exact uu1 | with_reducible exact uu2 | with_reducible exact uu3 | with_reducible exact uu4 | with_reducible exact uu5 | with_reducible exact uu6 | with_reducible exact uu7 | with_reducible exact uu8 | with_reducible exact uu9)) hst hbk; clear hst hbk))
      refine kpost_mk ?_
      cases hxp : x'.P
      · refine anyC_one (i := 9) (by kernel_rfl) (hI.sub (.cons_cons _ (List.nil_sublist _))) ?_
        refine anyC_stepl (i := 9) (by rfl) (by with_unfolding_all rfl) ?_
        go_wp2_with (first | fail)
        refine kpost_mk ?_
        refine anyC_one (i := 10) (by kernel_rfl) (hI.sub (.cons_cons _ (List.nil_sublist _))) ?_
        refine anyC_skipl (i := 10) (by rfl) (by with_unfolding_all rfl) ?_
        (simp only [Act.put, List.getElem_toArray, List.getElem_cons_succ, List.getElem_cons_zero, List.setIfInBounds_toArray, List.set_cons_succ, List.set_cons_zero])
        refine anyC_one (i := 11) (by kernel_rfl) (hI.sub (.cons_cons _ (List.nil_sublist _))) ?_
        refine anyC_stepl (i := 11) (by rfl) (by with_unfolding_all rfl) ?_
        go_wp2_with (first | fail)
        refine kpost_mk ?_
        refine anyC_done (by kernel_rfl) (hI.sub (.cons_cons _ (List.nil_sublist _))) ?_ _
        go_wp2_with fail
        exact hQ (upf vt i x') _ _ _ _ _ _ _ _ _ _ _ _ _ _ _ _ _ _ _ _ _ _ _ _ _ _ _ _ _ (Lib.hid (h.out.vow hi ha ht.out hP hx'.out.1 hx'.out.2.1 hx'.out.2.2.1 hx'.out.2.2.2)) (vote_in (fvt_at v W vt pv i x') List.nodup_range him (fvt_ne v W vt pv i x' _) (hI.sub (.cons _ (.refl _))))
      · refine anyC_one (i := 9) (by kernel_rfl) (hI.sub (.cons_cons _ (List.nil_sublist _))) ?_
        refine anyC_stepl (i := 9) (by rfl) (by with_unfolding_all rfl) ?_
        go_wp2_with (first | fail)
        refine kpost_mk ?_
        refine anyC_one (i := 10) (by kernel_rfl) (hI.sub (.cons_cons _ (List.nil_sublist _))) ?_
        refine anyC_stepl (i := 10) (by rfl) (by with_unfolding_all rfl) ?_
        go_wp2_with (first | fail)
        refine kpost_mk ?_
        refine anyC_one (i := 11) (by kernel_rfl) (hI.sub (.cons_cons _ (List.nil_sublist _))) ?_
        refine anyC_stepl (i := 11) (by rfl) (by with_unfolding_all rfl) ?_
        go_wp2_with (first | fail)
        refine kpost_mk ?_
        refine anyC_done (by kernel_rfl) (hI.sub (.cons_cons _ (List.nil_sublist _))) ?_ _
        go_wp2_with fail
        exact hQ (upf vt i x') _ _ _ _ _ _ _ _ _ _ _ _ _ _ _ _ _ _ _ _ _ _ _ _ _ _ _ _ _ (Lib.hid (h.out.vow hi ha ht.out hP hx'.out.1 hx'.out.2.1 hx'.out.2.2.1 hx'.out.2.2.2)) (vote_in (fvt_at v W vt pv i x') List.nodup_range him (fvt_ne v W vt pv i x' _) (hI.sub (.cons _ (.refl _))))
    · refine region_anyC (fun w => Inv [] w0 w ([ibb bx 87 ([((vw (i * 5 + a)).h : Int), (vw (i * 5 + a)).hw] ++ (vw (i * 5 + a)).c) [true]])) mixed ?_
      replace hI := hI.drew
      change anyC _ _ _ _ _ _ _ _ w1.drew
      revert hI
      generalize w1.drew = w9
      intro hI
      (refine anyC_take (i := 0) (v := ?_) rfl (by kernel_rfl) (by kernel_rfl) (by kernel_rfl) (fun c a w hp => hQp c a _ w (by rfl) hp) ⟨by rfl, ?_⟩ ?_; rotate_left; focus (intro w _; go_simp; with_reducible rfl))
      (simp only [Act.put, List.getElem_toArray, List.getElem_cons_succ, List.getElem_cons_zero, List.setIfInBounds_toArray, List.set_cons_succ, List.set_cons_zero])
      (refine anyC_take (i := 1) (v := ?_) rfl (by kernel_rfl) (by kernel_rfl) (by kernel_rfl) (fun c a w hp => hQp c a _ w (by rfl) hp) ⟨by rfl, ?_⟩ ?_; rotate_left; focus (intro w _; go_simp; with_reducible rfl))
      (simp only [Act.put, List.getElem_toArray, List.getElem_cons_succ, List.getElem_cons_zero, List.setIfInBounds_toArray, List.set_cons_succ, List.set_cons_zero])
      (refine anyC_take (i := 2) (v := ?_) rfl (by kernel_rfl) (by kernel_rfl) (by kernel_rfl) (fun c a w hp => hQp c a _ w (by rfl) hp) ⟨by rfl, ?_⟩ ?_; rotate_left; focus (intro w _; go_simp; with_reducible rfl))
      (simp only [Act.put, List.getElem_toArray, List.getElem_cons_succ, List.getElem_cons_zero, List.setIfInBounds_toArray, List.set_cons_succ, List.set_cons_zero])
      (refine anyC_take (i := 4) (v := ?_) rfl (by kernel_rfl) (by kernel_rfl) (by kernel_rfl) (fun c a w hp => hQp c a _ w (by rfl) hp) ⟨by rfl, ?_⟩ ?_; rotate_left; focus (intro w _; go_simp; with_reducible rfl))
      (simp only [Act.put, List.getElem_toArray, List.getElem_cons_succ, List.getElem_cons_zero, List.setIfInBounds_toArray, List.set_cons_succ, List.set_cons_zero])
      refine anyC_take (i := 5) (v := ia [((vw (i * 5 + a)).h : Int), (vw (i * 5 + a)).hw]) rfl (by kernel_rfl) (by kernel_rfl) (by kernel_rfl) (fun c a w hp => hQp c a _ w (by rfl) hp) ⟨by rfl, fun w hC => yld_load_mia hC (by with_unfolding_all rfl) mm0 agg25 (by omega) rfl⟩ ?_
      (simp only [Act.put, List.getElem_toArray, List.getElem_cons_succ, List.getElem_cons_zero, List.setIfInBounds_toArray, List.set_cons_succ, List.set_cons_zero])
      (refine anyC_take (i := 6) (v := ?_) rfl (by kernel_rfl) (by kernel_rfl) (by kernel_rfl) (fun c a w hp => hQp c a _ w (by rfl) hp) ⟨by rfl, ?_⟩ ?_; rotate_left; focus (intro w _; go_simp; with_reducible rfl))
      (simp only [Act.put, List.getElem_toArray, List.getElem_cons_succ, List.getElem_cons_zero, List.setIfInBounds_toArray, List.set_cons_succ, List.set_cons_zero])
      refine anyC_take (i := 7) (v := ia (vw (i * 5 + a)).c) rfl (by kernel_rfl) (by kernel_rfl) (by kernel_rfl) (fun c a w hp => hQp c a _ w (by rfl) hp) ⟨by rfl, fun w hC => yld_load_mia hC (by with_unfolding_all rfl) mm0 agg27 (by omega) hs23.out⟩ ?_
      (simp only [Act.put, List.getElem_toArray, List.getElem_cons_succ, List.getElem_cons_zero, List.setIfInBounds_toArray, List.set_cons_succ, List.set_cons_zero])
      refine anyC_one (i := 3) (by kernel_rfl) (hI.sub (.cons_cons _ (List.nil_sublist _))) ?_
      refine anyC_stepl (i := 3) (by rfl) (by with_unfolding_all rfl) ?_
      go_wp2_with (first | (go_at_call 35; (with_reducible refine (ballot_any _ (pv i) 92 (vtZ v W i (vt i)) (vt i).P zl.out (hI.mbk (by (first | with_reducible exact mm0 | with_reducible exact mm1 | with_reducible exact mm2 | with_reducible exact mm3 | with_reducible exact mm4 | with_reducible exact mm5 | with_reducible exact mm6 | with_reducible exact mm7 | with_reducible exact mm8 | with_reducible exact mm9)))).mono ?_); rw [z72.out]; rintro e w1 ⟨rfl, hst, hbk⟩; replace hI := hI.mcall (by (first | with_reducible exact uu0 | with_reducible exact uu1 | with_reducible exact uu2 | with_reducible exact uu3 | with_reducible exact uu4 | with_reducible exact uu5 | with_reducible exact uu6 | with_reducible exact uu7 | with_reducible exact uu8 | with_reducible exact uu9)) hst hbk; clear hst hbk))
      refine kpost_mk ?_
      refine anyC_one (i := 8) (by kernel_rfl) (hI.sub (.cons_cons _ (List.nil_sublist _))) ?_
      refine anyC_stepl (i := 8) (by rfl) (by with_unfolding_all rfl) ?_
      go_wp2_with (first | (go_at_call 31; (with_reducible refine (vowed_v_yes _ (pv i) (y := vw (i * 5 + a)) W i hv hch.out hP hyc.out (hI.mbk (by (first | with_reducible exact mm0 | with_reducible exact mm1 | with_reducible exact mm2 | with_reducible exact mm3 | with_reducible exact mm4 | with_reducible exact mm5 | with_reducible exact mm6 | with_reducible exact mm7 | with_reducible exact mm8 | with_reducible exact mm9)))).mono ?_); rintro e w1 ⟨rfl, hst, hbk⟩; replace hI := hI.mcall (by (first | with_reducible exact uu0 | with_reducible exact uu1 | with_reducible exact uu2 | with_reducible exact uu3 | with_reducible exact uu4 | with_reducible exact uu5 | with_reducible exact uu6 | with_reducible exact uu7 | with_reducible exact uu8 | with_reducible exact uu9)) hst hbk; clear hst hbk))
      refine kpost_mk ?_
      refine anyC_one (i := 9) (by kernel_rfl) (hI.sub (.cons_cons _ (List.nil_sublist _))) ?_
      refine anyC_stepl (i := 9) (by rfl) (by with_unfolding_all rfl) ?_
      go_wp2_with (first | fail)
      refine kpost_mk ?_
      refine anyC_one (i := 10) (by kernel_rfl) (hI.sub (.cons_cons _ (List.nil_sublist _))) ?_
      refine anyC_skipl (i := 10) (by rfl) (by with_unfolding_all rfl) ?_
      (simp only [Act.put, List.getElem_toArray, List.getElem_cons_succ, List.getElem_cons_zero, List.setIfInBounds_toArray, List.set_cons_succ, List.set_cons_zero])
      refine anyC_one (i := 11) (by kernel_rfl) (hI.sub (.cons_cons _ (List.nil_sublist _))) ?_
      refine anyC_stepl (i := 11) (by rfl) (by with_unfolding_all rfl) ?_
      go_wp2_with (first | fail)
      refine kpost_mk ?_
      refine anyC_done (by kernel_rfl) (hI.sub (.cons_cons _ (List.nil_sublist _))) ?_ _
      go_wp2_with fail
      exact hQ vt _ _ _ _ _ _ _ _ _ _ _ _ _ _ _ _ _ _ _ _ _ _ _ _ _ _ _ _ _ h (vote_in rfl List.nodup_range him (fun _ _ _ => rfl) (hI.sub (.cons _ (.refl _))))
end Go.Proofs.Ytaeapoidigglnaa
