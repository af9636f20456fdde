/-
  The law VoteOnce: a Put comes. No condition.
-/
import Derived.Test.YtaeapoidigglnaaOnceMem
import Derived.Test.YtaeapoidigglnaaAnyC
import Derived.Test.YtaeapoidigglnaaViewLaw
import Derived.Test.YtaeapoidigglnaaVoteFit
import Derived.Deep.CutBlock
namespace Go.Proofs.Ytaeapoidigglnaa
open Go.RowKit
set_option maxRecDepth 100000
set_option linter.unusedSimpArgs false
set_option linter.unusedVariables false
set_option maxHeartbeats 6400000 in
theorem vo_k3 {Q : Exit → Act → World → Prop} {w0 w : World} {v : List Int} {b5 b7 n i a : Nat} {W : Nat → Int} {vt : Nat → Vt} {ac : Nat → Ac} {vw : Nat → Vw} {tk : Nat → Bool} {cs : List (List Int)} {pv : Nat → Nat} {x9 x10 x11 x12 x13 : Oth} {s0 s1 s2 s3 s4 s6 s8 s14 s15 s16 s17 s18 s22 s23 s24 s25 s26 s27 s28 s29 s30 s31 s32 s33 s34 s35 s36 s37 s38 s39 s40 s41 s42 s43 s44 s45 s46 s47 s48 s49 s50 s51 s52 s53 s54 s55 s56 s57 s58 s59 s60 s61 s62 s63 s64 s65 s66 s67 s68 s69 s70 s71 s72 s73 s74 s75 s76 s77 s78 s79 s80 s81 s82 s83 s84 s85 s86 s87 s88 s89 s90 s91 s92 s93 s94 s95 s96 s97 s98 s99 s100 s101 s102 s103 s104 s105 s106 s107 s108 s109 s110 s111 s112 s113 s114 s115 s116 s117 s118 s119 s121 s122 s123 s124 s125 s126 s127 s128 s129 s130 s131 s132 s133 s134 s135 s136 s137 s138 s139 s140 s141 s142 s143 s144 s145 s146 s147 s148 s149 s150 s151 s152 s153 s154 s155 s156 s157 s158 s159 s160 s161 s162 s163 s164 s165 s166 s167 s168 s169 s170 s171 s172 s173 s174 s175 s176 s177 s178 s179 s180 s181 s182 s183 s184 s185 s186 s187 s188 s189 s190 s191 s192 s193 s194 s195 s196 s197 s198 s199 s200 s201 s202 s203 s204 s205 s206 s207 s208 s209 s210 s211 s212 s213 s214 s215 s216 s217 s218 s219 s220 s221 s222 s223 s224 s225 s226 s227 s228 s229 s230 s231 s232 s233 s234 s235 s236 s237 s238 s239 : Value} (hv : v.length = 7) (hi : i < n) (ha : a < 5) (h : Hid (Once (gi v 1) W n vt ac vw tk cs))
    (hQ : ∀ (ac' : Nat → Ac) (tk' : Nat → Bool) (wx : World) (u26 u27 u139 u140 u171 u172 u195 u196 u197 u198 u199 u200 u201 u202 u203 u204 u205 u206 u207 u208 u209 u210 u211 u212 u213 u214 u215 u216 u217 u218 u219 u220 u221 u222 u223 u224 u225 u226 : Value), Hid (Once (gi v 1) W n vt ac' vw tk' cs) → Inv [] w0 wx (OMem b5 b7 v n W vt ac' vw tk' cs pv x9 x10 x11 x12 x13) → Q .normal { tmps := #[s0, s1, s2, s3, s4, .pointer (some ⟨b5, 0, none⟩), s6, .pointer (some ⟨b7, 0, none⟩), s8, .slice x9.1 n x9.2, .slice x10.1 n x10.2, .slice x11.1 n x11.2, .slice x12.1 n x12.2, .slice x13.1 cs.length x13.2, s14, s15, s16, s17, s18, .int .i64 i, .int .i64 a, .pointer (some ⟨(pv i), 0, none⟩), s22, s23, s24, s25, u26, u27, s28, s29, s30, s31, s32, s33, s34, s35, s36, s37, s38, s39, s40, s41, s42, s43, s44, s45, s46, s47, s48, s49, s50, s51, s52, s53, s54, s55, s56, s57, s58, s59, s60, s61, s62, s63, s64, s65, s66, s67, s68, s69, s70, s71, s72, s73, s74, s75, s76, s77, s78, s79, s80, s81, s82, s83, s84, s85, s86, s87, s88, s89, s90, s91, s92, s93, s94, s95, s96, s97, s98, s99, s100, s101, s102, s103, s104, s105, s106, s107, s108, s109, s110, s111, s112, s113, s114, s115, s116, s117, s118, s119, .int .i64 3, s121, s122, s123, s124, s125, s126, s127, s128, s129, s130, s131, s132, s133, s134, s135, s136, s137, s138, u139, u140, s141, s142, s143, s144, s145, s146, s147, s148, s149, s150, s151, s152, s153, s154, s155, s156, s157, s158, s159, s160, s161, s162, s163, s164, s165, s166, s167, s168, s169, s170, u171, u172, s173, s174, s175, s176, s177, s178, s179, s180, s181, s182, s183, s184, s185, s186, s187, s188, s189, s190, s191, s192, s193, s194, u195, u196, u197, u198, u199, u200, u201, u202, u203, u204, u205, u206, u207, u208, u209, u210, u211, u212, u213, u214, u215, u216, u217, u218, u219, u220, u221, u222, u223, u224, u225, u226, s227, s228, s229, s230, s231, s232, s233, s234, s235, s236, s237, s238, s239], defers := [] } wx)
    (hQx : Hid (∀ (wx : World) (u26 u27 u139 u140 u171 u172 u195 u196 u197 u198 u199 u200 u201 u202 u203 u204 u205 u206 u207 u208 u209 u210 u211 u212 u213 u214 u215 u216 u217 u218 u219 u220 u221 u222 u223 u224 u225 u226 : Value), Inv [] w0 wx (OMem b5 b7 v n W vt ac vw tk cs pv x9 x10 x11 x12 x13) → Q (.exit 3) { tmps := #[s0, s1, s2, s3, s4, .pointer (some ⟨b5, 0, none⟩), s6, .pointer (some ⟨b7, 0, none⟩), s8, .slice x9.1 n x9.2, .slice x10.1 n x10.2, .slice x11.1 n x11.2, .slice x12.1 n x12.2, .slice x13.1 cs.length x13.2, s14, s15, s16, s17, s18, .int .i64 i, .int .i64 a, .pointer (some ⟨(pv i), 0, none⟩), s22, s23, s24, s25, u26, u27, s28, s29, s30, s31, s32, s33, s34, s35, s36, s37, s38, s39, s40, s41, s42, s43, s44, s45, s46, s47, s48, s49, s50, s51, s52, s53, s54, s55, s56, s57, s58, s59, s60, s61, s62, s63, s64, s65, s66, s67, s68, s69, s70, s71, s72, s73, s74, s75, s76, s77, s78, s79, s80, s81, s82, s83, s84, s85, s86, s87, s88, s89, s90, s91, s92, s93, s94, s95, s96, s97, s98, s99, s100, s101, s102, s103, s104, s105, s106, s107, s108, s109, s110, s111, s112, s113, s114, s115, s116, s117, s118, s119, .int .i64 3, s121, s122, s123, s124, s125, s126, s127, s128, s129, s130, s131, s132, s133, s134, s135, s136, s137, s138, u139, u140, s141, s142, s143, s144, s145, s146, s147, s148, s149, s150, s151, s152, s153, s154, s155, s156, s157, s158, s159, s160, s161, s162, s163, s164, s165, s166, s167, s168, s169, s170, u171, u172, s173, s174, s175, s176, s177, s178, s179, s180, s181, s182, s183, s184, s185, s186, s187, s188, s189, s190, s191, s192, s193, s194, u195, u196, u197, u198, u199, u200, u201, u202, u203, u204, u205, u206, u207, u208, u209, u210, u211, u212, u213, u214, u215, u216, u217, u218, u219, u220, u221, u222, u223, u224, u225, u226, s227, s228, s229, s230, s231, s232, s233, s234, s235, s236, s237, s238, s239], defers := [] } wx))
    (hQp : ∀ c (a a' : Act) w, a'.defers = a.defers → Q (.panic c) a' w → Q (.panic c) a w)
    (hI : Inv [] w0 w (OMem b5 b7 v n W vt ac vw tk cs pv x9 x10 x11 x12 x13)) : Code.wp Try.prog (nx (nx (nx (nx (nx (nx (nx (cblk (fs (nx (nx (lpb (cblk (nx (fs (nx (nx (nx (nx (nx (nx (nx (nx (nx (nx (nx (Try.f17.body.getD .skip))))))))))))))))))))))))))) Q { tmps := #[s0, s1, s2, s3, s4, .pointer (some ⟨b5, 0, none⟩), s6, .pointer (some ⟨b7, 0, none⟩), s8, .slice x9.1 n x9.2, .slice x10.1 n x10.2, .slice x11.1 n x11.2, .slice x12.1 n x12.2, .slice x13.1 cs.length x13.2, s14, s15, s16, s17, s18, .int .i64 i, .int .i64 a, .pointer (some ⟨(pv i), 0, none⟩), s22, s23, s24, s25, s26, s27, s28, s29, s30, s31, s32, s33, s34, s35, s36, s37, s38, s39, s40, s41, s42, s43, s44, s45, s46, s47, s48, s49, s50, s51, s52, s53, s54, s55, s56, s57, s58, s59, s60, s61, s62, s63, s64, s65, s66, s67, s68, s69, s70, s71, s72, s73, s74, s75, s76, s77, s78, s79, s80, s81, s82, s83, s84, s85, s86, s87, s88, s89, s90, s91, s92, s93, s94, s95, s96, s97, s98, s99, s100, s101, s102, s103, s104, s105, s106, s107, s108, s109, s110, s111, s112, s113, s114, s115, s116, s117, s118, s119, .int .i64 3, s121, s122, s123, s124, s125, s126, s127, s128, s129, s130, s131, s132, s133, s134, s135, s136, s137, s138, s139, s140, s141, s142, s143, s144, s145, s146, s147, s148, s149, s150, s151, s152, s153, s154, s155, s156, s157, s158, s159, s160, s161, s162, s163, s164, s165, s166, s167, s168, s169, s170, s171, s172, s173, s174, s175, s176, s177, s178, s179, s180, s181, s182, s183, s184, s185, s186, s187, s188, s189, s190, s191, s192, s193, s194, s195, s196, s197, s198, s199, s200, s201, s202, s203, s204, s205, s206, s207, s208, s209, s210, s211, s212, s213, s214, s215, s216, s217, s218, s219, s220, s221, s222, s223, s224, s225, s226, s227, s228, s229, s230, s231, s232, s233, s234, s235, s236, s237, s238, s239], defers := [] } w := by
  obtain ⟨q1, q2, q3, q4, q5⟩ := h.out.al a ha
  have hac := Lib.hid q1
  have haw := Lib.hid q4
  have hch := Lib.hid (h.out.vl i hi).1
  have hparts := vtZ_parts (v := v) W i hv hch.out
  have zl := Lib.hid hparts.1
  have z72 := Lib.hid hparts.2.2.1
  have z93 := Lib.hid hparts.2.2.2.1
  have hall : ∀ a, a < 5 → (ac a).c.length = 3 := fun a ha => (h.out.al a ha).1
  have hl40 := Lib.hid (lA_len (e := gi v 0) hall)
  have haa := Lib.hid (lA_at (e := gi v 0) hall (off := a * 8) ha rfl)
  have hvw := Lib.hid (vw_ok h.out)
  have him : i ∈ List.range n := List.mem_range.2 hi
  have hmem := Lib.hid (memB_nat (v := v) ha)
  have ha0 : (0 : Int) ≤ (a : Int) := by omega
  have ha1 : (a : Int) < 5 := by omega
  have hi0 : (0 : Int) ≤ (i : Int) := by omega
  have hi1 : (i : Int) < (n : Int) := by omega
  clear hparts q1 q2 q3 q4 q5 hall
  unfold OMem at hI
  replace hI := vote_out him hI
  rw [show fvt v W vt pv i = ibb (pv i) 92 (vtZ v W i (vt i)) [(vt i).P] from rfl] at hI
  obtain ⟨a11, c11⟩ := x11
  dsimp only at hI
  obtain ⟨g11, rfl⟩ := osl_some (a' := a11) (n' := n) (c := c11) (e := 89) (size := 5) (n := n) (xs := lT n tk) hI mm3 (by rw [lT_len]; omega)
  have hl5 := Lib.hid (lT_len (n := n) (tk := tk))
  have htp := Lib.hid (lT_put (n := n) (tk := tk) (off := i * 5 + a) hi ha rfl true)
  have hzl : (acZ (gi v 0) ⟨i + 1, i + 1, W i, W i, (vt i).ch⟩).length = 8 := acZ_len hch.out
  have hzl2 : (acZ (gi v 0) (ac a)).length = 8 := acZ_len hac.out
  have hput := Lib.hid (lA_put (e := gi v 0) (fun a ha => (h.out.al a ha).1) (off := a * 8) ha rfl (x := ⟨i + 1, i + 1, W i, W i, (vt i).ch⟩) hch.out)
  dsimp only [nx, fs, cblk, lpb, Try.f17, Option.getD]
  go_upto_region 44 with fail
  cases hP : (vt i).P
  · go_wp2_with (first | (go_at_call 33; (with_reducible refine (putting_any _ (pv i) 92 (vtZ v W i (vt i)) (vt i).P zl.out (hI.mbk (by (first | with_reducible exact mm0 | with_reducible exact mm1 | with_reducible exact mm2 | with_reducible exact mm3 | with_reducible exact mm4 | with_reducible exact mm5 | with_reducible exact mm6 | with_reducible exact mm7 | with_reducible exact mm8 | with_reducible exact mm9)))).mono ?_); rw [hP]; rintro e w1 ⟨rfl, hst, hbk⟩; rw [← hP] at hbk; replace hI := hI.mcall (by (first | with_reducible exact uu0 | with_reducible exact uu1 | with_reducible exact uu2 | with_reducible exact uu3 | with_reducible exact uu4 | with_reducible exact uu5 | with_reducible exact uu6 | with_reducible exact uu7 | with_reducible exact uu8 | with_reducible exact uu9)) hst hbk; clear hst hbk))
    exact hQx.out _ _ _ _ _ _ _ _ _ _ _ _ _ _ _ _ _ _ _ _ _ _ _ _ _ _ _ _ _ _ _ _ _ _ _ _ _ _ _ (vote_in rfl List.nodup_range him (fun _ _ _ => rfl) hI)
  · by_cases hr : (ac a).r ≤ i + 1
    · have hrr := Lib.hid hr
      clear hr
      go_upto_region 45 with (first | (go_at_call 33; (with_reducible refine (putting_any _ (pv i) 92 (vtZ v W i (vt i)) (vt i).P zl.out (hI.mbk (by (first | with_reducible exact mm0 | with_reducible exact mm1 | with_reducible exact mm2 | with_reducible exact mm3 | with_reducible exact mm4 | with_reducible exact mm5 | with_reducible exact mm6 | with_reducible exact mm7 | with_reducible exact mm8 | with_reducible exact mm9)))).mono ?_); rw [hP]; rintro e w1 ⟨rfl, hst, hbk⟩; rw [← hP] at hbk; replace hI := hI.mcall (by (first | with_reducible exact uu0 | with_reducible exact uu1 | with_reducible exact uu2 | with_reducible exact uu3 | with_reducible exact uu4 | with_reducible exact uu5 | with_reducible exact uu6 | with_reducible exact uu7 | with_reducible exact uu8 | with_reducible exact uu9)) hst hbk; clear hst hbk))
      refine region_anyC (fun w => Inv [] w0 w (ibb (pv i) 92 (vtZ v W i (vt i)) [(vt i).P] :: [osl 55 1 (.slice x9.1 n x9.2) n (lP n pv), osl 88 30 (.slice x10.1 n x10.2) n (lV n vw), osl 89 5 (.slice (some ⟨g11, 0, none⟩) n c11) n (lT n tk), osl 27 3 (.slice x12.1 n x12.2) n (lU n), osl 27 3 (.slice x13.1 cs.length x13.2) cs.length (lC cs), fam ((List.range n).erase i) (fvt v W vt pv), ib b7 80 (lA (gi v 0) ac), ib b5 53 v])) mixed ?_
      replace hI := hI.drew
      change anyC _ _ _ _ _ _ _ _ w1.drew
      revert hI
      generalize w1.drew = w9
      intro hI
      (refine anyC_take (i := 0) (v := ?_) rfl (by kernel_rfl) (by kernel_rfl) (by kernel_rfl) (fun c a w hp => hQp c a _ w (by rfl) hp) ⟨by rfl, ?_⟩ ?_; rotate_left; focus (intro w _; go_simp; with_reducible rfl))
      (simp only [Act.put, List.getElem_toArray, List.getElem_cons_succ, List.getElem_cons_zero, List.setIfInBounds_toArray, List.set_cons_succ, List.set_cons_zero])
      (refine anyC_take (i := 1) (v := ?_) rfl (by kernel_rfl) (by kernel_rfl) (by kernel_rfl) (fun c a w hp => hQp c a _ w (by rfl) hp) ⟨by rfl, ?_⟩ ?_; rotate_left; focus (intro w _; go_simp; with_reducible rfl))
      (simp only [Act.put, List.getElem_toArray, List.getElem_cons_succ, List.getElem_cons_zero, List.setIfInBounds_toArray, List.set_cons_succ, List.set_cons_zero])
      refine anyC_take (i := 2) (v := ia (acZ (gi v 0) (ac a))) rfl (by kernel_rfl) (by kernel_rfl) (by kernel_rfl) (fun c a w hp => hQp c a _ w (by rfl) hp) ⟨by rfl, fun w hC => yld_load_ia hC (by with_unfolding_all rfl) (by first | with_reducible exact mm0 | with_reducible exact mm1 | with_reducible exact mm2 | with_reducible exact mm3 | with_reducible exact mm4 | with_reducible exact mm5 | with_reducible exact mm6 | with_reducible exact mm7 | with_reducible exact mm8) agg29 (by rw [hl40.out]; omega) haa.out⟩ ?_
      (simp only [Act.put, List.getElem_toArray, List.getElem_cons_succ, List.getElem_cons_zero, List.setIfInBounds_toArray, List.set_cons_succ, List.set_cons_zero])
      (refine anyC_take (i := 3) (v := ?_) rfl (by kernel_rfl) (by kernel_rfl) (by kernel_rfl) (fun c a w hp => hQp c a _ w (by rfl) hp) ⟨by rfl, ?_⟩ ?_; rotate_left; focus (intro w _; go_simp; with_reducible rfl))
      (simp only [Act.put, List.getElem_toArray, List.getElem_cons_succ, List.getElem_cons_zero, List.setIfInBounds_toArray, List.set_cons_succ, List.set_cons_zero])
      refine anyC_take (i := 4) (v := .int .i64 (gi v 0)) rfl (by kernel_rfl) (by kernel_rfl) (by kernel_rfl) (fun c a w hp => hQp c a _ w (by rfl) hp) ⟨by rfl, fun w hC => yld_load_i1 hC (by with_unfolding_all rfl) (by first | with_reducible exact mm0 | with_reducible exact mm1 | with_reducible exact mm2 | with_reducible exact mm3 | with_reducible exact mm4 | with_reducible exact mm5 | with_reducible exact mm6 | with_reducible exact mm7 | with_reducible exact mm8) one3 (by omega) rfl⟩ ?_
      (simp only [Act.put, List.getElem_toArray, List.getElem_cons_succ, List.getElem_cons_zero, List.setIfInBounds_toArray, List.set_cons_succ, List.set_cons_zero])
      (refine anyC_take (i := 5) (v := ?_) rfl (by kernel_rfl) (by kernel_rfl) (by kernel_rfl) (fun c a w hp => hQp c a _ w (by rfl) hp) ⟨by rfl, ?_⟩ ?_; rotate_left; focus (intro w _; go_simp; with_reducible rfl))
      (simp only [Act.put, List.getElem_toArray, List.getElem_cons_succ, List.getElem_cons_zero, List.setIfInBounds_toArray, List.set_cons_succ, List.set_cons_zero])
      (refine anyC_take (i := 7) (v := ?_) rfl (by kernel_rfl) (by kernel_rfl) (by kernel_rfl) (fun c a w hp => hQp c a _ w (by rfl) hp) ⟨by rfl, ?_⟩ ?_; rotate_left; focus (intro w _; go_simp; with_reducible rfl))
      (simp only [Act.put, List.getElem_toArray, List.getElem_cons_succ, List.getElem_cons_zero, List.setIfInBounds_toArray, List.set_cons_succ, List.set_cons_zero])
      refine anyC_two (i := 6) (j := 13) (by kernel_rfl) (hI.sub (.refl _)) ?_ ?_
      · refine anyC_stepl (i := 6) (by rfl) (by with_unfolding_all rfl) ?_
        go_wp2_with (first | (go_at_call 35; (with_reducible refine (ballot_any _ (pv i) 92 (vtZ v W i (vt i)) (vt i).P zl.out (hI.mbk (by (first | with_reducible exact mm0 | with_reducible exact mm1 | with_reducible exact mm2 | with_reducible exact mm3 | with_reducible exact mm4 | with_reducible exact mm5 | with_reducible exact mm6 | with_reducible exact mm7 | with_reducible exact mm8 | with_reducible exact mm9)))).mono ?_); rw [z72.out]; rintro e w1 ⟨rfl, hst, hbk⟩; replace hI := hI.mcall (by (first | with_reducible exact uu0 | with_reducible exact uu1 | with_reducible exact uu2 | with_reducible exact uu3 | with_reducible exact uu4 | with_reducible exact uu5 | with_reducible exact uu6 | with_reducible exact uu7 | with_reducible exact uu8 | with_reducible exact uu9)) hst hbk; clear hst hbk))
        refine kpost_mk ?_
        refine anyC_two (i := 8) (j := 13) (by kernel_rfl) (hI.sub (.refl _)) ?_ ?_
        · refine anyC_stepl (i := 8) (by rfl) (by with_unfolding_all rfl) ?_
          go_wp2_with (first | (go_at_call 34; (with_reducible refine (change_any _ (pv i) 92 (vtZ v W i (vt i)) (vt i).P zl.out (hI.mbk (by (first | with_reducible exact mm0 | with_reducible exact mm1 | with_reducible exact mm2 | with_reducible exact mm3 | with_reducible exact mm4 | with_reducible exact mm5 | with_reducible exact mm6 | with_reducible exact mm7 | with_reducible exact mm8 | with_reducible exact mm9)))).mono ?_); rw [z93.out]; rintro e w1 ⟨rfl, hst, hbk⟩; replace hI := hI.mcall (by (first | with_reducible exact uu0 | with_reducible exact uu1 | with_reducible exact uu2 | with_reducible exact uu3 | with_reducible exact uu4 | with_reducible exact uu5 | with_reducible exact uu6 | with_reducible exact uu7 | with_reducible exact uu8 | with_reducible exact uu9)) hst hbk; clear hst hbk))
          refine kpost_mk ?_
          refine anyC_two (i := 9) (j := 13) (by kernel_rfl) (hI.sub (.refl _)) ?_ ?_
          · refine anyC_stepl (i := 9) (by rfl) (by with_unfolding_all rfl) ?_
            go_wp2_with (first | (go_at_call 19; (with_reducible refine (put_ac _ (gi v 0) W i hac.out hch.out haw.out hrr.out).mono ?_); rintro e w1 ⟨rfl, hw1⟩; replace hI := hI.call hw1; clear hw1))
            refine kpost_mk ?_
            (refine anyC_take (i := 10) (v := ?_) rfl (by kernel_rfl) (by kernel_rfl) (by kernel_rfl) (fun c a w hp => hQp c a _ w (by rfl) hp) ⟨by rfl, ?_⟩ ?_; rotate_left; focus (intro w _; go_simp; with_reducible rfl))
            (simp only [Act.put, List.getElem_toArray, List.getElem_cons_succ, List.getElem_cons_zero, List.setIfInBounds_toArray, List.set_cons_succ, List.set_cons_zero])
            (refine anyC_take (i := 11) (v := ?_) rfl (by kernel_rfl) (by kernel_rfl) (by kernel_rfl) (fun c a w hp => hQp c a _ w (by rfl) hp) ⟨by rfl, ?_⟩ ?_; rotate_left; focus (intro w _; go_simp; with_reducible rfl))
            (simp only [Act.put, List.getElem_toArray, List.getElem_cons_succ, List.getElem_cons_zero, List.setIfInBounds_toArray, List.set_cons_succ, List.set_cons_zero])
            (refine anyC_take (i := 12) (v := ?_) rfl (by kernel_rfl) (by kernel_rfl) (by kernel_rfl) (fun c a w hp => hQp c a _ w (by rfl) hp) ⟨by rfl, ?_⟩ ?_; rotate_left; focus (intro w _; go_simp; with_reducible rfl))
            (simp only [Act.put, List.getElem_toArray, List.getElem_cons_succ, List.getElem_cons_zero, List.setIfInBounds_toArray, List.set_cons_succ, List.set_cons_zero])
            refine anyC_one (i := 13) (by kernel_rfl) (hI.sub (.refl _)) ?_
            refine anyC_stepl (i := 13) (by rfl) (by with_unfolding_all rfl) ?_
            go_wp2_with (first | ((with_reducible refine wpList_alloc_ia hI (by first | with_reducible exact zi53 | with_reducible exact zi51 | with_reducible exact zi27 | with_reducible exact zi25 | with_reducible exact zi29) ?_); clear hI; intro bx w hI))
            refine kpost_mk ?_
            refine anyC_one (i := 14) (by kernel_rfl) (hI.sub (.cons _ (.refl _))) ?_
            refine anyC_stepl (i := 14) (by rfl) (by with_unfolding_all rfl) ?_
            go_wp2_with (first | ((with_reducible refine wpList_store_iw hI (by with_unfolding_all rfl) (by with_unfolding_all rfl) (by first | with_reducible exact uu0 | with_reducible exact uu1 | with_reducible exact uu2 | with_reducible exact uu3 | with_reducible exact uu4 | with_reducible exact uu5 | with_reducible exact uu6 | with_reducible exact uu7 | with_reducible exact uu8 | with_reducible exact uu9) (by first | with_reducible exact agg53 | with_reducible exact agg51 | with_reducible exact agg27 | with_reducible exact agg25 | with_reducible exact agg29 | with_reducible exact agg87) (by (repeat (first | rw [List.length_set] | rw [nau_len] | rw [sub_len] | rw [spl_len])) <;> omega) (by (repeat (first | rw [List.length_set] | rw [nau_len] | rw [sub_len] | rw [spl_len])) <;> omega) ?_); clear hI; intro w hI))
            refine kpost_mk ?_
            refine anyC_one (i := 15) (by kernel_rfl) (hI.sub (.cons _ (.refl _))) ?_
            refine anyC_stepl (i := 15) (by rfl) (by with_unfolding_all rfl) ?_
            go_wp2_with (first | fail)
            refine kpost_mk ?_
            refine anyC_done (by kernel_rfl) (hI.sub (.cons _ (.refl _))) ?_ _
            cases hmb : bt (gi v 1) a
            · replace hmem := Lib.hid (hmem.out.trans hmb)
              go_wp2_with (first | ((with_reducible refine wpList_on  (by with_unfolding_all rfl) ?_)) | ((with_reducible refine wpList_load_iw hI (by with_unfolding_all rfl) (by first | with_reducible exact mm0 | with_reducible exact mm1 | with_reducible exact mm2 | with_reducible exact mm3 | with_reducible exact mm4 | with_reducible exact mm5 | with_reducible exact mm6 | with_reducible exact mm7 | with_reducible exact mm8 | with_reducible exact mm9) (by first | with_reducible exact agg53 | with_reducible exact agg51 | with_reducible exact agg27 | with_reducible exact agg25 | with_reducible exact agg29 | with_reducible exact agg87) (by (repeat (first | rw [List.length_set] | rw [nau_len] | rw [sub_len] | rw [spl_len])) <;> omega) ?_)) | (go_at_call 39; refine (member_any _ v _ hv).mono ?_; rw [hmem.out]; rintro e w1 ⟨rfl, hw1⟩; replace hI := hI.call hw1; clear hw1))
              exact hQ ac tk _ _ _ _ _ _ _ _ _ _ _ _ _ _ _ _ _ _ _ _ _ _ _ _ _ _ _ _ _ _ _ _ _ _ _ _ _ _ _ h (vote_in rfl List.nodup_range him (fun _ _ _ => rfl) (hI.sub (.cons _ (.refl _))))
            · replace hmem := Lib.hid (hmem.out.trans hmb)
              go_wp2_with (first | ((with_reducible refine wpList_on  (by with_unfolding_all rfl) ?_)) | ((with_reducible refine wpList_load_iw hI (by with_unfolding_all rfl) (by first | with_reducible exact mm0 | with_reducible exact mm1 | with_reducible exact mm2 | with_reducible exact mm3 | with_reducible exact mm4 | with_reducible exact mm5 | with_reducible exact mm6 | with_reducible exact mm7 | with_reducible exact mm8 | with_reducible exact mm9) (by first | with_reducible exact agg53 | with_reducible exact agg51 | with_reducible exact agg27 | with_reducible exact agg25 | with_reducible exact agg29 | with_reducible exact agg87) (by (repeat (first | rw [List.length_set] | rw [nau_len] | rw [sub_len] | rw [spl_len])) <;> omega) ?_)) | (go_at_call 39; refine (member_any _ v _ hv).mono ?_; rw [hmem.out]; rintro e w1 ⟨rfl, hw1⟩; replace hI := hI.call hw1; clear hw1) | (with_reducible refine wpList_store_iav (vs := acZ (gi v 0) ⟨i + 1, i + 1, W i, W i, (vt i).ch⟩) hI (by with_unfolding_all rfl) (by with_unfolding_all rfl) (by (first | with_reducible exact uu0 | with_reducible exact uu1 | with_reducible exact uu2 | with_reducible exact uu3 | with_reducible exact uu4 | with_reducible exact uu5 | with_reducible exact uu6 | with_reducible exact uu7 | with_reducible exact uu8 | with_reducible exact uu9)) agg29 (by omega) (by rw [hl40.out]; omega) hput.out ?_; clear hI; intro w hI) | (with_reducible refine wpList_store_os (vs := [.bool true]) hI (by with_unfolding_all rfl) (by with_unfolding_all rfl) (by (first | with_reducible exact uu0 | with_reducible exact uu1 | with_reducible exact uu2 | with_reducible exact uu3 | with_reducible exact uu4 | with_reducible exact uu5 | with_reducible exact uu6 | with_reducible exact uu7 | with_reducible exact uu8 | with_reducible exact uu9)) one4.size (by with_unfolding_all rfl) (by rw [hl5.out]; omega) (by simp [Value.oneCell']) htp.out ?_; clear hI; intro w hI))
              exact hQ (upf ac a ⟨i + 1, i + 1, W i, W i, (vt i).ch⟩) (upf tk (i * 5 + a) true) _ _ _ _ _ _ _ _ _ _ _ _ _ _ _ _ _ _ _ _ _ _ _ _ _ _ _ _ _ _ _ _ _ _ _ _ _ _ _ (Lib.hid (h.out.put hi ha hrr.out hmb hP)) (vote_in rfl List.nodup_range him (fun _ _ _ => rfl) (hI.sub (.cons _ (.refl _))))
          · refine anyC_stepl (i := 13) (by rfl) (by with_unfolding_all rfl) ?_
            go_wp2_with (first | ((with_reducible refine wpList_alloc_ia hI (by first | with_reducible exact zi53 | with_reducible exact zi51 | with_reducible exact zi27 | with_reducible exact zi25 | with_reducible exact zi29) ?_); clear hI; intro bx w hI))
            refine kpost_mk ?_
            refine anyC_one (i := 9) (by kernel_rfl) (hI.sub (.cons _ (.refl _))) ?_
            refine anyC_stepl (i := 9) (by rfl) (by with_unfolding_all rfl) ?_
            go_wp2_with (first | (go_at_call 19; (with_reducible refine (put_ac _ (gi v 0) W i hac.out hch.out haw.out hrr.out).mono ?_); rintro e w1 ⟨rfl, hw1⟩; replace hI := hI.call hw1; clear hw1))
            refine kpost_mk ?_
            (refine anyC_take (i := 10) (v := ?_) rfl (by kernel_rfl) (by kernel_rfl) (by kernel_rfl) (fun c a w hp => hQp c a _ w (by rfl) hp) ⟨by rfl, ?_⟩ ?_; rotate_left; focus (intro w _; go_simp; with_reducible rfl))
            (simp only [Act.put, List.getElem_toArray, List.getElem_cons_succ, List.getElem_cons_zero, List.setIfInBounds_toArray, List.set_cons_succ, List.set_cons_zero])
            (refine anyC_take (i := 11) (v := ?_) rfl (by kernel_rfl) (by kernel_rfl) (by kernel_rfl) (fun c a w hp => hQp c a _ w (by rfl) hp) ⟨by rfl, ?_⟩ ?_; rotate_left; focus (intro w _; go_simp; with_reducible rfl))
            (simp only [Act.put, List.getElem_toArray, List.getElem_cons_succ, List.getElem_cons_zero, List.setIfInBounds_toArray, List.set_cons_succ, List.set_cons_zero])
            (refine anyC_take (i := 12) (v := ?_) rfl (by kernel_rfl) (by kernel_rfl) (by kernel_rfl) (fun c a w hp => hQp c a _ w (by rfl) hp) ⟨by rfl, ?_⟩ ?_; rotate_left; focus (intro w _; go_simp; with_reducible rfl))
            (simp only [Act.put, List.getElem_toArray, List.getElem_cons_succ, List.getElem_cons_zero, List.setIfInBounds_toArray, List.set_cons_succ, List.set_cons_zero])
            refine anyC_one (i := 14) (by kernel_rfl) (hI.sub (.cons _ (.refl _))) ?_
            refine anyC_stepl (i := 14) (by rfl) (by with_unfolding_all rfl) ?_
            go_wp2_with (first | ((with_reducible refine wpList_store_iw hI (by with_unfolding_all rfl) (by with_unfolding_all rfl) (by first | with_reducible exact uu0 | with_reducible exact uu1 | with_reducible exact uu2 | with_reducible exact uu3 | with_reducible exact uu4 | with_reducible exact uu5 | with_reducible exact uu6 | with_reducible exact uu7 | with_reducible exact uu8 | with_reducible exact uu9) (by first | with_reducible exact agg53 | with_reducible exact agg51 | with_reducible exact agg27 | with_reducible exact agg25 | with_reducible exact agg29 | with_reducible exact agg87) (by (repeat (first | rw [List.length_set] | rw [nau_len] | rw [sub_len] | rw [spl_len])) <;> omega) (by (repeat (first | rw [List.length_set] | rw [nau_len] | rw [sub_len] | rw [spl_len])) <;> omega) ?_); clear hI; intro w hI))
            refine kpost_mk ?_
            refine anyC_one (i := 15) (by kernel_rfl) (hI.sub (.cons _ (.refl _))) ?_
            refine anyC_stepl (i := 15) (by rfl) (by with_unfolding_all rfl) ?_
            go_wp2_with (first | fail)
            refine kpost_mk ?_
            refine anyC_done (by kernel_rfl) (hI.sub (.cons _ (.refl _))) ?_ _
            cases hmb : bt (gi v 1) a
            · replace hmem := Lib.hid (hmem.out.trans hmb)
              go_wp2_with (first | ((with_reducible refine wpList_on  (by with_unfolding_all rfl) ?_)) | ((with_reducible refine wpList_load_iw hI (by with_unfolding_all rfl) (by first | with_reducible exact mm0 | with_reducible exact mm1 | with_reducible exact mm2 | with_reducible exact mm3 | with_reducible exact mm4 | with_reducible exact mm5 | with_reducible exact mm6 | with_reducible exact mm7 | with_reducible exact mm8 | with_reducible exact mm9) (by first | with_reducible exact agg53 | with_reducible exact agg51 | with_reducible exact agg27 | with_reducible exact agg25 | with_reducible exact agg29 | with_reducible exact agg87) (by (repeat (first | rw [List.length_set] | rw [nau_len] | rw [sub_len] | rw [spl_len])) <;> omega) ?_)) | (go_at_call 39; refine (member_any _ v _ hv).mono ?_; rw [hmem.out]; rintro e w1 ⟨rfl, hw1⟩; replace hI := hI.call hw1; clear hw1))
              exact hQ ac tk _ _ _ _ _ _ _ _ _ _ _ _ _ _ _ _ _ _ _ _ _ _ _ _ _ _ _ _ _ _ _ _ _ _ _ _ _ _ _ h (vote_in rfl List.nodup_range him (fun _ _ _ => rfl) (hI.sub (.cons _ (.refl _))))
            · replace hmem := Lib.hid (hmem.out.trans hmb)
              go_wp2_with (first | ((with_reducible refine wpList_on  (by with_unfolding_all rfl) ?_)) | ((with_reducible refine wpList_load_iw hI (by with_unfolding_all rfl) (by first | with_reducible exact mm0 | with_reducible exact mm1 | with_reducible exact mm2 | with_reducible exact mm3 | with_reducible exact mm4 | with_reducible exact mm5 | with_reducible exact mm6 | with_reducible exact mm7 | with_reducible exact mm8 | with_reducible exact mm9) (by first | with_reducible exact agg53 | with_reducible exact agg51 | with_reducible exact agg27 | with_reducible exact agg25 | with_reducible exact agg29 | with_reducible exact agg87) (by (repeat (first | rw [List.length_set] | rw [nau_len] | rw [sub_len] | rw [spl_len])) <;> omega) ?_)) | (go_at_call 39; refine (member_any _ v _ hv).mono ?_; rw [hmem.out]; rintro e w1 ⟨rfl, hw1⟩; replace hI := hI.call hw1; clear hw1) | (with_reducible refine wpList_store_iav (vs := acZ (gi v 0) ⟨i + 1, i + 1, W i, W i, (vt i).ch⟩) hI (by with_unfolding_all rfl) (by with_unfolding_all rfl) (by (first | with_reducible exact uu0 | with_reducible exact uu1 | with_reducible exact uu2 | with_reducible exact uu3 | with_reducible exact uu4 | with_reducible exact uu5 | with_reducible exact uu6 | with_reducible exact uu7 | with_reducible exact uu8 | with_reducible exact uu9)) agg29 (by omega) (by rw [hl40.out]; omega) hput.out ?_; clear hI; intro w hI) | (with_reducible refine wpList_store_os (vs := [.bool true]) hI (by with_unfolding_all rfl) (by with_unfolding_all rfl) (by (first | with_reducible exact uu0 | with_reducible exact uu1 | with_reducible exact uu2 | with_reducible exact uu3 | with_reducible exact uu4 | with_reducible exact uu5 | with_reducible exact uu6 | with_reducible exact uu7 | with_reducible exact uu8 | with_reducible exact uu9)) one4.size (by with_unfolding_all rfl) (by rw [hl5.out]; omega) (by simp [Value.oneCell']) htp.out ?_; clear hI; intro w hI))
              exact hQ (upf ac a ⟨i + 1, i + 1, W i, W i, (vt i).ch⟩) (upf tk (i * 5 + a) true) _ _ _ _ _ _ _ _ _ _ _ _ _ _ _ _ _ _ _ _ _ _ _ _ _ _ _ _ _ _ _ _ _ _ _ _ _ _ _ (Lib.hid (h.out.put hi ha hrr.out hmb hP)) (vote_in rfl List.nodup_range him (fun _ _ _ => rfl) (hI.sub (.cons _ (.refl _))))
        · refine anyC_stepl (i := 13) (by rfl) (by with_unfolding_all rfl) ?_
          go_wp2_with (first | ((with_reducible refine wpList_alloc_ia hI (by first | with_reducible exact zi53 | with_reducible exact zi51 | with_reducible exact zi27 | with_reducible exact zi25 | with_reducible exact zi29) ?_); clear hI; intro bx w hI))
          refine kpost_mk ?_
          refine anyC_one (i := 8) (by kernel_rfl) (hI.sub (.cons _ (.refl _))) ?_
          refine anyC_stepl (i := 8) (by rfl) (by with_unfolding_all rfl) ?_
          go_wp2_with (first | (go_at_call 34; (with_reducible refine (change_any _ (pv i) 92 (vtZ v W i (vt i)) (vt i).P zl.out (hI.mbk (by (first | with_reducible exact mm0 | with_reducible exact mm1 | with_reducible exact mm2 | with_reducible exact mm3 | with_reducible exact mm4 | with_reducible exact mm5 | with_reducible exact mm6 | with_reducible exact mm7 | with_reducible exact mm8 | with_reducible exact mm9)))).mono ?_); rw [z93.out]; rintro e w1 ⟨rfl, hst, hbk⟩; replace hI := hI.mcall (by (first | with_reducible exact uu0 | with_reducible exact uu1 | with_reducible exact uu2 | with_reducible exact uu3 | with_reducible exact uu4 | with_reducible exact uu5 | with_reducible exact uu6 | with_reducible exact uu7 | with_reducible exact uu8 | with_reducible exact uu9)) hst hbk; clear hst hbk))
          refine kpost_mk ?_
          refine anyC_one (i := 9) (by kernel_rfl) (hI.sub (.cons _ (.refl _))) ?_
          refine anyC_stepl (i := 9) (by rfl) (by with_unfolding_all rfl) ?_
          go_wp2_with (first | (go_at_call 19; (with_reducible refine (put_ac _ (gi v 0) W i hac.out hch.out haw.out hrr.out).mono ?_); rintro e w1 ⟨rfl, hw1⟩; replace hI := hI.call hw1; clear hw1))
          refine kpost_mk ?_
          (refine anyC_take (i := 10) (v := ?_) rfl (by kernel_rfl) (by kernel_rfl) (by kernel_rfl) (fun c a w hp => hQp c a _ w (by rfl) hp) ⟨by rfl, ?_⟩ ?_; rotate_left; focus (intro w _; go_simp; with_reducible rfl))
          (simp only [Act.put, List.getElem_toArray, List.getElem_cons_succ, List.getElem_cons_zero, List.setIfInBounds_toArray, List.set_cons_succ, List.set_cons_zero])
          (refine anyC_take (i := 11) (v := ?_) rfl (by kernel_rfl) (by kernel_rfl) (by kernel_rfl) (fun c a w hp => hQp c a _ w (by rfl) hp) ⟨by rfl, ?_⟩ ?_; rotate_left; focus (intro w _; go_simp; with_reducible rfl))
          (simp only [Act.put, List.getElem_toArray, List.getElem_cons_succ, List.getElem_cons_zero, List.setIfInBounds_toArray, List.set_cons_succ, List.set_cons_zero])
          (refine anyC_take (i := 12) (v := ?_) rfl (by kernel_rfl) (by kernel_rfl) (by kernel_rfl) (fun c a w hp => hQp c a _ w (by rfl) hp) ⟨by rfl, ?_⟩ ?_; rotate_left; focus (intro w _; go_simp; with_reducible rfl))
          (simp only [Act.put, List.getElem_toArray, List.getElem_cons_succ, List.getElem_cons_zero, List.setIfInBounds_toArray, List.set_cons_succ, List.set_cons_zero])
          refine anyC_one (i := 14) (by kernel_rfl) (hI.sub (.cons _ (.refl _))) ?_
          refine anyC_stepl (i := 14) (by rfl) (by with_unfolding_all rfl) ?_
          go_wp2_with (first | ((with_reducible refine wpList_store_iw hI (by with_unfolding_all rfl) (by with_unfolding_all rfl) (by first | with_reducible exact uu0 | with_reducible exact uu1 | with_reducible exact uu2 | with_reducible exact uu3 | with_reducible exact uu4 | with_reducible exact uu5 | with_reducible exact uu6 | with_reducible exact uu7 | with_reducible exact uu8 | with_reducible exact uu9) (by first | with_reducible exact agg53 | with_reducible exact agg51 | with_reducible exact agg27 | with_reducible exact agg25 | with_reducible exact agg29 | with_reducible exact agg87) (by (repeat (first | rw [List.length_set] | rw [nau_len] | rw [sub_len] | rw [spl_len])) <;> omega) (by (repeat (first | rw [List.length_set] | rw [nau_len] | rw [sub_len] | rw [spl_len])) <;> omega) ?_); clear hI; intro w hI))
          refine kpost_mk ?_
          refine anyC_one (i := 15) (by kernel_rfl) (hI.sub (.cons _ (.refl _))) ?_
          refine anyC_stepl (i := 15) (by rfl) (by with_unfolding_all rfl) ?_
          go_wp2_with (first | fail)
          refine kpost_mk ?_
          refine anyC_done (by kernel_rfl) (hI.sub (.cons _ (.refl _))) ?_ _
          cases hmb : bt (gi v 1) a
          · replace hmem := Lib.hid (hmem.out.trans hmb)
            go_wp2_with (first | ((with_reducible refine wpList_on  (by with_unfolding_all rfl) ?_)) | ((with_reducible refine wpList_load_iw hI (by with_unfolding_all rfl) (by first | with_reducible exact mm0 | with_reducible exact mm1 | with_reducible exact mm2 | with_reducible exact mm3 | with_reducible exact mm4 | with_reducible exact mm5 | with_reducible exact mm6 | with_reducible exact mm7 | with_reducible exact mm8 | with_reducible exact mm9) (by first | with_reducible exact agg53 | with_reducible exact agg51 | with_reducible exact agg27 | with_reducible exact agg25 | with_reducible exact agg29 | with_reducible exact agg87) (by (repeat (first | rw [List.length_set] | rw [nau_len] | rw [sub_len] | rw [spl_len])) <;> omega) ?_)) | (go_at_call 39; refine (member_any _ v _ hv).mono ?_; rw [hmem.out]; rintro e w1 ⟨rfl, hw1⟩; replace hI := hI.call hw1; clear hw1))
            exact hQ ac tk _ _ _ _ _ _ _ _ _ _ _ _ _ _ _ _ _ _ _ _ _ _ _ _ _ _ _ _ _ _ _ _ _ _ _ _ _ _ _ h (vote_in rfl List.nodup_range him (fun _ _ _ => rfl) (hI.sub (.cons _ (.refl _))))
          · replace hmem := Lib.hid (hmem.out.trans hmb)
            go_wp2_with (first | ((with_reducible refine wpList_on  (by with_unfolding_all rfl) ?_)) | ((with_reducible refine wpList_load_iw hI (by with_unfolding_all rfl) (by first | with_reducible exact mm0 | with_reducible exact mm1 | with_reducible exact mm2 | with_reducible exact mm3 | with_reducible exact mm4 | with_reducible exact mm5 | with_reducible exact mm6 | with_reducible exact mm7 | with_reducible exact mm8 | with_reducible exact mm9) (by first | with_reducible exact agg53 | with_reducible exact agg51 | with_reducible exact agg27 | with_reducible exact agg25 | with_reducible exact agg29 | with_reducible exact agg87) (by (repeat (first | rw [List.length_set] | rw [nau_len] | rw [sub_len] | rw [spl_len])) <;> omega) ?_)) | (go_at_call 39; refine (member_any _ v _ hv).mono ?_; rw [hmem.out]; rintro e w1 ⟨rfl, hw1⟩; replace hI := hI.call hw1; clear hw1) | (with_reducible refine wpList_store_iav (vs := acZ (gi v 0) ⟨i + 1, i + 1, W i, W i, (vt i).ch⟩) hI (by with_unfolding_all rfl) (by with_unfolding_all rfl) (by (first | with_reducible exact uu0 | with_reducible exact uu1 | with_reducible exact uu2 | with_reducible exact uu3 | with_reducible exact uu4 | with_reducible exact uu5 | with_reducible exact uu6 | with_reducible exact uu7 | with_reducible exact uu8 | with_reducible exact uu9)) agg29 (by omega) (by rw [hl40.out]; omega) hput.out ?_; clear hI; intro w hI) | (with_reducible refine wpList_store_os (vs := [.bool true]) hI (by with_unfolding_all rfl) (by with_unfolding_all rfl) (by (first | with_reducible exact uu0 | with_reducible exact uu1 | with_reducible exact uu2 | with_reducible exact uu3 | with_reducible exact uu4 | with_reducible exact uu5 | with_reducible exact uu6 | with_reducible exact uu7 | with_reducible exact uu8 | with_reducible exact uu9)) one4.size (by with_unfolding_all rfl) (by rw [hl5.out]; omega) (by simp [Value.oneCell']) htp.out ?_; clear hI; intro w hI))
            exact hQ (upf ac a ⟨i + 1, i + 1, W i, W i, (vt i).ch⟩) (upf tk (i * 5 + a) true) _ _ _ _ _ _ _ _ _ _ _ _ _ _ _ _ _ _ _ _ _ _ _ _ _ _ _ _ _ _ _ _ _ _ _ _ _ _ _ (Lib.hid (h.out.put hi ha hrr.out hmb hP)) (vote_in rfl List.nodup_range him (fun _ _ _ => rfl) (hI.sub (.cons _ (.refl _))))
      · refine anyC_stepl (i := 13) (by rfl) (by with_unfolding_all rfl) ?_
        go_wp2_with (first | ((with_reducible refine wpList_alloc_ia hI (by first | with_reducible exact zi53 | with_reducible exact zi51 | with_reducible exact zi27 | with_reducible exact zi25 | with_reducible exact zi29) ?_); clear hI; intro bx w hI))
        refine kpost_mk ?_
        refine anyC_one (i := 6) (by kernel_rfl) (hI.sub (.cons _ (.refl _))) ?_
        refine anyC_stepl (i := 6) (by rfl) (by with_unfolding_all rfl) ?_
        go_wp2_with (first | (go_at_call 35; (with_reducible refine (ballot_any _ (pv i) 92 (vtZ v W i (vt i)) (vt i).P zl.out (hI.mbk (by (first | with_reducible exact mm0 | with_reducible exact mm1 | with_reducible exact mm2 | with_reducible exact mm3 | with_reducible exact mm4 | with_reducible exact mm5 | with_reducible exact mm6 | with_reducible exact mm7 | with_reducible exact mm8 | with_reducible exact mm9)))).mono ?_); rw [z72.out]; rintro e w1 ⟨rfl, hst, hbk⟩; replace hI := hI.mcall (by (first | with_reducible exact uu0 | with_reducible exact uu1 | with_reducible exact uu2 | with_reducible exact uu3 | with_reducible exact uu4 | with_reducible exact uu5 | with_reducible exact uu6 | with_reducible exact uu7 | with_reducible exact uu8 | with_reducible exact uu9)) hst hbk; clear hst hbk))
        refine kpost_mk ?_
        refine anyC_one (i := 8) (by kernel_rfl) (hI.sub (.cons _ (.refl _))) ?_
        refine anyC_stepl (i := 8) (by rfl) (by with_unfolding_all rfl) ?_
        go_wp2_with (first | (go_at_call 34; (with_reducible refine (change_any _ (pv i) 92 (vtZ v W i (vt i)) (vt i).P zl.out (hI.mbk (by (first | with_reducible exact mm0 | with_reducible exact mm1 | with_reducible exact mm2 | with_reducible exact mm3 | with_reducible exact mm4 | with_reducible exact mm5 | with_reducible exact mm6 | with_reducible exact mm7 | with_reducible exact mm8 | with_reducible exact mm9)))).mono ?_); rw [z93.out]; rintro e w1 ⟨rfl, hst, hbk⟩; replace hI := hI.mcall (by (first | with_reducible exact uu0 | with_reducible exact uu1 | with_reducible exact uu2 | with_reducible exact uu3 | with_reducible exact uu4 | with_reducible exact uu5 | with_reducible exact uu6 | with_reducible exact uu7 | with_reducible exact uu8 | with_reducible exact uu9)) hst hbk; clear hst hbk))
        refine kpost_mk ?_
        refine anyC_one (i := 9) (by kernel_rfl) (hI.sub (.cons _ (.refl _))) ?_
        refine anyC_stepl (i := 9) (by rfl) (by with_unfolding_all rfl) ?_
        go_wp2_with (first | (go_at_call 19; (with_reducible refine (put_ac _ (gi v 0) W i hac.out hch.out haw.out hrr.out).mono ?_); rintro e w1 ⟨rfl, hw1⟩; replace hI := hI.call hw1; clear hw1))
        refine kpost_mk ?_
        (refine anyC_take (i := 10) (v := ?_) rfl (by kernel_rfl) (by kernel_rfl) (by kernel_rfl) (fun c a w hp => hQp c a _ w (by rfl) hp) ⟨by rfl, ?_⟩ ?_; rotate_left; focus (intro w _; go_simp; with_reducible rfl))
        (simp only [Act.put, List.getElem_toArray, List.getElem_cons_succ, List.getElem_cons_zero, List.setIfInBounds_toArray, List.set_cons_succ, List.set_cons_zero])
        (refine anyC_take (i := 11) (v := ?_) rfl (by kernel_rfl) (by kernel_rfl) (by kernel_rfl) (fun c a w hp => hQp c a _ w (by rfl) hp) ⟨by rfl, ?_⟩ ?_; rotate_left; focus (intro w _; go_simp; with_reducible rfl))
        (simp only [Act.put, List.getElem_toArray, List.getElem_cons_succ, List.getElem_cons_zero, List.setIfInBounds_toArray, List.set_cons_succ, List.set_cons_zero])
        (refine anyC_take (i := 12) (v := ?_) rfl (by kernel_rfl) (by kernel_rfl) (by kernel_rfl) (fun c a w hp => hQp c a _ w (by rfl) hp) ⟨by rfl, ?_⟩ ?_; rotate_left; focus (intro w _; go_simp; with_reducible rfl))
        (simp only [Act.put, List.getElem_toArray, List.getElem_cons_succ, List.getElem_cons_zero, List.setIfInBounds_toArray, List.set_cons_succ, List.set_cons_zero])
        refine anyC_one (i := 14) (by kernel_rfl) (hI.sub (.cons _ (.refl _))) ?_
        refine anyC_stepl (i := 14) (by rfl) (by with_unfolding_all rfl) ?_
        go_wp2_with (first | ((with_reducible refine wpList_store_iw hI (by with_unfolding_all rfl) (by with_unfolding_all rfl) (by first | with_reducible exact uu0 | with_reducible exact uu1 | with_reducible exact uu2 | with_reducible exact uu3 | with_reducible exact uu4 | with_reducible exact uu5 | with_reducible exact uu6 | with_reducible exact uu7 | with_reducible exact uu8 | with_reducible exact uu9) (by first | with_reducible exact agg53 | with_reducible exact agg51 | with_reducible exact agg27 | with_reducible exact agg25 | with_reducible exact agg29 | with_reducible exact agg87) (by (repeat (first | rw [List.length_set] | rw [nau_len] | rw [sub_len] | rw [spl_len])) <;> omega) (by (repeat (first | rw [List.length_set] | rw [nau_len] | rw [sub_len] | rw [spl_len])) <;> omega) ?_); clear hI; intro w hI))
        refine kpost_mk ?_
        refine anyC_one (i := 15) (by kernel_rfl) (hI.sub (.cons _ (.refl _))) ?_
        refine anyC_stepl (i := 15) (by rfl) (by with_unfolding_all rfl) ?_
        go_wp2_with (first | fail)
        refine kpost_mk ?_
        refine anyC_done (by kernel_rfl) (hI.sub (.cons _ (.refl _))) ?_ _
        cases hmb : bt (gi v 1) a
        · replace hmem := Lib.hid (hmem.out.trans hmb)
          go_wp2_with (first | ((with_reducible refine wpList_on  (by with_unfolding_all rfl) ?_)) | ((with_reducible refine wpList_load_iw hI (by with_unfolding_all rfl) (by first | with_reducible exact mm0 | with_reducible exact mm1 | with_reducible exact mm2 | with_reducible exact mm3 | with_reducible exact mm4 | with_reducible exact mm5 | with_reducible exact mm6 | with_reducible exact mm7 | with_reducible exact mm8 | with_reducible exact mm9) (by first | with_reducible exact agg53 | with_reducible exact agg51 | with_reducible exact agg27 | with_reducible exact agg25 | with_reducible exact agg29 | with_reducible exact agg87) (by (repeat (first | rw [List.length_set] | rw [nau_len] | rw [sub_len] | rw [spl_len])) <;> omega) ?_)) | (go_at_call 39; refine (member_any _ v _ hv).mono ?_; rw [hmem.out]; rintro e w1 ⟨rfl, hw1⟩; replace hI := hI.call hw1; clear hw1))
          exact hQ ac tk _ _ _ _ _ _ _ _ _ _ _ _ _ _ _ _ _ _ _ _ _ _ _ _ _ _ _ _ _ _ _ _ _ _ _ _ _ _ _ h (vote_in rfl List.nodup_range him (fun _ _ _ => rfl) (hI.sub (.cons _ (.refl _))))
        · replace hmem := Lib.hid (hmem.out.trans hmb)
          go_wp2_with (first | ((with_reducible refine wpList_on  (by with_unfolding_all rfl) ?_)) | ((with_reducible refine wpList_load_iw hI (by with_unfolding_all rfl) (by first | with_reducible exact mm0 | with_reducible exact mm1 | with_reducible exact mm2 | with_reducible exact mm3 | with_reducible exact mm4 | with_reducible exact mm5 | with_reducible exact mm6 | with_reducible exact mm7 | with_reducible exact mm8 | with_reducible exact mm9) (by first | with_reducible exact agg53 | with_reducible exact agg51 | with_reducible exact agg27 | with_reducible exact agg25 | with_reducible exact agg29 | with_reducible exact agg87) (by (repeat (first | rw [List.length_set] | rw [nau_len] | rw [sub_len] | rw [spl_len])) <;> omega) ?_)) | (go_at_call 39; refine (member_any _ v _ hv).mono ?_; rw [hmem.out]; rintro e w1 ⟨rfl, hw1⟩; replace hI := hI.call hw1; clear hw1) | (with_reducible refine wpList_store_iav (vs := acZ (gi v 0) ⟨i + 1, i + 1, W i, W i, (vt i).ch⟩) hI (by with_unfolding_all rfl) (by with_unfolding_all rfl) (by (first | with_reducible exact uu0 | with_reducible exact uu1 | with_reducible exact uu2 | with_reducible exact uu3 | with_reducible exact uu4 | with_reducible exact uu5 | with_reducible exact uu6 | with_reducible exact uu7 | with_reducible exact uu8 | with_reducible exact uu9)) agg29 (by omega) (by rw [hl40.out]; omega) hput.out ?_; clear hI; intro w hI) | (with_reducible refine wpList_store_os (vs := [.bool true]) hI (by with_unfolding_all rfl) (by with_unfolding_all rfl) (by (first | with_reducible exact uu0 | with_reducible exact uu1 | with_reducible exact uu2 | with_reducible exact uu3 | with_reducible exact uu4 | with_reducible exact uu5 | with_reducible exact uu6 | with_reducible exact uu7 | with_reducible exact uu8 | with_reducible exact uu9)) one4.size (by with_unfolding_all rfl) (by rw [hl5.out]; omega) (by simp [Value.oneCell']) htp.out ?_; clear hI; intro w hI))
          exact hQ (upf ac a ⟨i + 1, i + 1, W i, W i, (vt i).ch⟩) (upf tk (i * 5 + a) true) _ _ _ _ _ _ _ _ _ _ _ _ _ _ _ _ _ _ _ _ _ _ _ _ _ _ _ _ _ _ _ _ _ _ _ _ _ _ _ (Lib.hid (h.out.put hi ha hrr.out hmb hP)) (vote_in rfl List.nodup_range him (fun _ _ _ => rfl) (hI.sub (.cons _ (.refl _))))
    · have hrr := Lib.hid hr
      clear hr
      go_upto_region 45 with (first | (go_at_call 33; (with_reducible refine (putting_any _ (pv i) 92 (vtZ v W i (vt i)) (vt i).P zl.out (hI.mbk (by (first | with_reducible exact mm0 | with_reducible exact mm1 | with_reducible exact mm2 | with_reducible exact mm3 | with_reducible exact mm4 | with_reducible exact mm5 | with_reducible exact mm6 | with_reducible exact mm7 | with_reducible exact mm8 | with_reducible exact mm9)))).mono ?_); rw [hP]; rintro e w1 ⟨rfl, hst, hbk⟩; rw [← hP] at hbk; replace hI := hI.mcall (by (first | with_reducible exact uu0 | with_reducible exact uu1 | with_reducible exact uu2 | with_reducible exact uu3 | with_reducible exact uu4 | with_reducible exact uu5 | with_reducible exact uu6 | with_reducible exact uu7 | with_reducible exact uu8 | with_reducible exact uu9)) hst hbk; clear hst hbk))
      refine region_anyC (fun w => Inv [] w0 w (ibb (pv i) 92 (vtZ v W i (vt i)) [(vt i).P] :: [osl 55 1 (.slice x9.1 n x9.2) n (lP n pv), osl 88 30 (.slice x10.1 n x10.2) n (lV n vw), osl 89 5 (.slice (some ⟨g11, 0, none⟩) n c11) n (lT n tk), osl 27 3 (.slice x12.1 n x12.2) n (lU n), osl 27 3 (.slice x13.1 cs.length x13.2) cs.length (lC cs), fam ((List.range n).erase i) (fvt v W vt pv), ib b7 80 (lA (gi v 0) ac), ib b5 53 v])) mixed ?_
      replace hI := hI.drew
      change anyC _ _ _ _ _ _ _ _ w1.drew
      revert hI
      generalize w1.drew = w9
      intro hI
      (refine anyC_take (i := 0) (v := ?_) rfl (by kernel_rfl) (by kernel_rfl) (by kernel_rfl) (fun c a w hp => hQp c a _ w (by rfl) hp) ⟨by rfl, ?_⟩ ?_; rotate_left; focus (intro w _; go_simp; with_reducible rfl))
      (simp only [Act.put, List.getElem_toArray, List.getElem_cons_succ, List.getElem_cons_zero, List.setIfInBounds_toArray, List.set_cons_succ, List.set_cons_zero])
      (refine anyC_take (i := 1) (v := ?_) rfl (by kernel_rfl) (by kernel_rfl) (by kernel_rfl) (fun c a w hp => hQp c a _ w (by rfl) hp) ⟨by rfl, ?_⟩ ?_; rotate_left; focus (intro w _; go_simp; with_reducible rfl))
      (simp only [Act.put, List.getElem_toArray, List.getElem_cons_succ, List.getElem_cons_zero, List.setIfInBounds_toArray, List.set_cons_succ, List.set_cons_zero])
      refine anyC_take (i := 2) (v := ia (acZ (gi v 0) (ac a))) rfl (by kernel_rfl) (by kernel_rfl) (by kernel_rfl) (fun c a w hp => hQp c a _ w (by rfl) hp) ⟨by rfl, fun w hC => yld_load_ia hC (by with_unfolding_all rfl) (by first | with_reducible exact mm0 | with_reducible exact mm1 | with_reducible exact mm2 | with_reducible exact mm3 | with_reducible exact mm4 | with_reducible exact mm5 | with_reducible exact mm6 | with_reducible exact mm7 | with_reducible exact mm8) agg29 (by rw [hl40.out]; omega) haa.out⟩ ?_
      (simp only [Act.put, List.getElem_toArray, List.getElem_cons_succ, List.getElem_cons_zero, List.setIfInBounds_toArray, List.set_cons_succ, List.set_cons_zero])
      (refine anyC_take (i := 3) (v := ?_) rfl (by kernel_rfl) (by kernel_rfl) (by kernel_rfl) (fun c a w hp => hQp c a _ w (by rfl) hp) ⟨by rfl, ?_⟩ ?_; rotate_left; focus (intro w _; go_simp; with_reducible rfl))
      (simp only [Act.put, List.getElem_toArray, List.getElem_cons_succ, List.getElem_cons_zero, List.setIfInBounds_toArray, List.set_cons_succ, List.set_cons_zero])
      refine anyC_take (i := 4) (v := .int .i64 (gi v 0)) rfl (by kernel_rfl) (by kernel_rfl) (by kernel_rfl) (fun c a w hp => hQp c a _ w (by rfl) hp) ⟨by rfl, fun w hC => yld_load_i1 hC (by with_unfolding_all rfl) (by first | with_reducible exact mm0 | with_reducible exact mm1 | with_reducible exact mm2 | with_reducible exact mm3 | with_reducible exact mm4 | with_reducible exact mm5 | with_reducible exact mm6 | with_reducible exact mm7 | with_reducible exact mm8) one3 (by omega) rfl⟩ ?_
      (simp only [Act.put, List.getElem_toArray, List.getElem_cons_succ, List.getElem_cons_zero, List.setIfInBounds_toArray, List.set_cons_succ, List.set_cons_zero])
      (refine anyC_take (i := 5) (v := ?_) rfl (by kernel_rfl) (by kernel_rfl) (by kernel_rfl) (fun c a w hp => hQp c a _ w (by rfl) hp) ⟨by rfl, ?_⟩ ?_; rotate_left; focus (intro w _; go_simp; with_reducible rfl))
      (simp only [Act.put, List.getElem_toArray, List.getElem_cons_succ, List.getElem_cons_zero, List.setIfInBounds_toArray, List.set_cons_succ, List.set_cons_zero])
      (refine anyC_take (i := 7) (v := ?_) rfl (by kernel_rfl) (by kernel_rfl) (by kernel_rfl) (fun c a w hp => hQp c a _ w (by rfl) hp) ⟨by rfl, ?_⟩ ?_; rotate_left; focus (intro w _; go_simp; with_reducible rfl))
      (simp only [Act.put, List.getElem_toArray, List.getElem_cons_succ, List.getElem_cons_zero, List.setIfInBounds_toArray, List.set_cons_succ, List.set_cons_zero])
      refine anyC_two (i := 6) (j := 13) (by kernel_rfl) (hI.sub (.refl _)) ?_ ?_
      · refine anyC_stepl (i := 6) (by rfl) (by with_unfolding_all rfl) ?_
        go_wp2_with (first | (go_at_call 35; (with_reducible refine (ballot_any _ (pv i) 92 (vtZ v W i (vt i)) (vt i).P zl.out (hI.mbk (by (first | with_reducible exact mm0 | with_reducible exact mm1 | with_reducible exact mm2 | with_reducible exact mm3 | with_reducible exact mm4 | with_reducible exact mm5 | with_reducible exact mm6 | with_reducible exact mm7 | with_reducible exact mm8 | with_reducible exact mm9)))).mono ?_); rw [z72.out]; rintro e w1 ⟨rfl, hst, hbk⟩; replace hI := hI.mcall (by (first | with_reducible exact uu0 | with_reducible exact uu1 | with_reducible exact uu2 | with_reducible exact uu3 | with_reducible exact uu4 | with_reducible exact uu5 | with_reducible exact uu6 | with_reducible exact uu7 | with_reducible exact uu8 | with_reducible exact uu9)) hst hbk; clear hst hbk))
        refine kpost_mk ?_
        refine anyC_two (i := 8) (j := 13) (by kernel_rfl) (hI.sub (.refl _)) ?_ ?_
        · refine anyC_stepl (i := 8) (by rfl) (by with_unfolding_all rfl) ?_
          go_wp2_with (first | (go_at_call 34; (with_reducible refine (change_any _ (pv i) 92 (vtZ v W i (vt i)) (vt i).P zl.out (hI.mbk (by (first | with_reducible exact mm0 | with_reducible exact mm1 | with_reducible exact mm2 | with_reducible exact mm3 | with_reducible exact mm4 | with_reducible exact mm5 | with_reducible exact mm6 | with_reducible exact mm7 | with_reducible exact mm8 | with_reducible exact mm9)))).mono ?_); rw [z93.out]; rintro e w1 ⟨rfl, hst, hbk⟩; replace hI := hI.mcall (by (first | with_reducible exact uu0 | with_reducible exact uu1 | with_reducible exact uu2 | with_reducible exact uu3 | with_reducible exact uu4 | with_reducible exact uu5 | with_reducible exact uu6 | with_reducible exact uu7 | with_reducible exact uu8 | with_reducible exact uu9)) hst hbk; clear hst hbk))
          refine kpost_mk ?_
          refine anyC_two (i := 9) (j := 13) (by kernel_rfl) (hI.sub (.refl _)) ?_ ?_
          · refine anyC_stepl (i := 9) (by rfl) (by with_unfolding_all rfl) ?_
            go_wp2_with (first | (go_at_call 19; (with_reducible refine (put_ac_no _ (gi v 0) W i hac.out hch.out hrr.out).mono ?_); rintro e w1 ⟨rfl, hw1⟩; replace hI := hI.call hw1; clear hw1))
            refine kpost_mk ?_
            (refine anyC_take (i := 10) (v := ?_) rfl (by kernel_rfl) (by kernel_rfl) (by kernel_rfl) (fun c a w hp => hQp c a _ w (by rfl) hp) ⟨by rfl, ?_⟩ ?_; rotate_left; focus (intro w _; go_simp; with_reducible rfl))
            (simp only [Act.put, List.getElem_toArray, List.getElem_cons_succ, List.getElem_cons_zero, List.setIfInBounds_toArray, List.set_cons_succ, List.set_cons_zero])
            (refine anyC_take (i := 11) (v := ?_) rfl (by kernel_rfl) (by kernel_rfl) (by kernel_rfl) (fun c a w hp => hQp c a _ w (by rfl) hp) ⟨by rfl, ?_⟩ ?_; rotate_left; focus (intro w _; go_simp; with_reducible rfl))
            (simp only [Act.put, List.getElem_toArray, List.getElem_cons_succ, List.getElem_cons_zero, List.setIfInBounds_toArray, List.set_cons_succ, List.set_cons_zero])
            (refine anyC_take (i := 12) (v := ?_) rfl (by kernel_rfl) (by kernel_rfl) (by kernel_rfl) (fun c a w hp => hQp c a _ w (by rfl) hp) ⟨by rfl, ?_⟩ ?_; rotate_left; focus (intro w _; go_simp; with_reducible rfl))
            (simp only [Act.put, List.getElem_toArray, List.getElem_cons_succ, List.getElem_cons_zero, List.setIfInBounds_toArray, List.set_cons_succ, List.set_cons_zero])
            refine anyC_one (i := 13) (by kernel_rfl) (hI.sub (.refl _)) ?_
            refine anyC_stepl (i := 13) (by rfl) (by with_unfolding_all rfl) ?_
            go_wp2_with (first | ((with_reducible refine wpList_alloc_ia hI (by first | with_reducible exact zi53 | with_reducible exact zi51 | with_reducible exact zi27 | with_reducible exact zi25 | with_reducible exact zi29) ?_); clear hI; intro bx w hI))
            refine kpost_mk ?_
            refine anyC_one (i := 14) (by kernel_rfl) (hI.sub (.cons _ (.refl _))) ?_
            refine anyC_stepl (i := 14) (by rfl) (by with_unfolding_all rfl) ?_
            go_wp2_with (first | ((with_reducible refine wpList_store_iw hI (by with_unfolding_all rfl) (by with_unfolding_all rfl) (by first | with_reducible exact uu0 | with_reducible exact uu1 | with_reducible exact uu2 | with_reducible exact uu3 | with_reducible exact uu4 | with_reducible exact uu5 | with_reducible exact uu6 | with_reducible exact uu7 | with_reducible exact uu8 | with_reducible exact uu9) (by first | with_reducible exact agg53 | with_reducible exact agg51 | with_reducible exact agg27 | with_reducible exact agg25 | with_reducible exact agg29 | with_reducible exact agg87) (by (repeat (first | rw [List.length_set] | rw [nau_len] | rw [sub_len] | rw [spl_len])) <;> omega) (by (repeat (first | rw [List.length_set] | rw [nau_len] | rw [sub_len] | rw [spl_len])) <;> omega) ?_); clear hI; intro w hI))
            refine kpost_mk ?_
            refine anyC_one (i := 15) (by kernel_rfl) (hI.sub (.cons _ (.refl _))) ?_
            refine anyC_stepl (i := 15) (by rfl) (by with_unfolding_all rfl) ?_
            go_wp2_with (first | fail)
            refine kpost_mk ?_
            refine anyC_done (by kernel_rfl) (hI.sub (.cons _ (.refl _))) ?_ _
            go_wp2_with (first | ((with_reducible refine wpList_on  (by with_unfolding_all rfl) ?_)))
            exact hQ ac tk _ _ _ _ _ _ _ _ _ _ _ _ _ _ _ _ _ _ _ _ _ _ _ _ _ _ _ _ _ _ _ _ _ _ _ _ _ _ _ h (vote_in rfl List.nodup_range him (fun _ _ _ => rfl) (hI.sub (.cons _ (.refl _))))
          · refine anyC_stepl (i := 13) (by rfl) (by with_unfolding_all rfl) ?_
            go_wp2_with (first | ((with_reducible refine wpList_alloc_ia hI (by first | with_reducible exact zi53 | with_reducible exact zi51 | with_reducible exact zi27 | with_reducible exact zi25 | with_reducible exact zi29) ?_); clear hI; intro bx w hI))
            refine kpost_mk ?_
            refine anyC_one (i := 9) (by kernel_rfl) (hI.sub (.cons _ (.refl _))) ?_
            refine anyC_stepl (i := 9) (by rfl) (by with_unfolding_all rfl) ?_
            go_wp2_with (first | (go_at_call 19; (with_reducible refine (put_ac_no _ (gi v 0) W i hac.out hch.out hrr.out).mono ?_); rintro e w1 ⟨rfl, hw1⟩; replace hI := hI.call hw1; clear hw1))
            refine kpost_mk ?_
            (refine anyC_take (i := 10) (v := ?_) rfl (by kernel_rfl) (by kernel_rfl) (by kernel_rfl) (fun c a w hp => hQp c a _ w (by rfl) hp) ⟨by rfl, ?_⟩ ?_; rotate_left; focus (intro w _; go_simp; with_reducible rfl))
            (simp only [Act.put, List.getElem_toArray, List.getElem_cons_succ, List.getElem_cons_zero, List.setIfInBounds_toArray, List.set_cons_succ, List.set_cons_zero])
            (refine anyC_take (i := 11) (v := ?_) rfl (by kernel_rfl) (by kernel_rfl) (by kernel_rfl) (fun c a w hp => hQp c a _ w (by rfl) hp) ⟨by rfl, ?_⟩ ?_; rotate_left; focus (intro w _; go_simp; with_reducible rfl))
            (simp only [Act.put, List.getElem_toArray, List.getElem_cons_succ, List.getElem_cons_zero, List.setIfInBounds_toArray, List.set_cons_succ, List.set_cons_zero])
            (refine anyC_take (i := 12) (v := ?_) rfl (by kernel_rfl) (by kernel_rfl) (by kernel_rfl) (fun c a w hp => hQp c a _ w (by rfl) hp) ⟨by rfl, ?_⟩ ?_; rotate_left; focus (intro w _; go_simp; with_reducible rfl))
            (simp only [Act.put, List.getElem_toArray, List.getElem_cons_succ, List.getElem_cons_zero, List.setIfInBounds_toArray, List.set_cons_succ, List.set_cons_zero])
            refine anyC_one (i := 14) (by kernel_rfl) (hI.sub (.cons _ (.refl _))) ?_
            refine anyC_stepl (i := 14) (by rfl) (by with_unfolding_all rfl) ?_
            go_wp2_with (first | ((with_reducible refine wpList_store_iw hI (by with_unfolding_all rfl) (by with_unfolding_all rfl) (by first | with_reducible exact uu0 | with_reducible exact uu1 | with_reducible exact uu2 | with_reducible exact uu3 | with_reducible exact uu4 | with_reducible exact uu5 | with_reducible exact uu6 | with_reducible exact uu7 | with_reducible exact uu8 | with_reducible exact uu9) (by first | with_reducible exact agg53 | with_reducible exact agg51 | with_reducible exact agg27 | with_reducible exact agg25 | with_reducible exact agg29 | with_reducible exact agg87) (by (repeat (first | rw [List.length_set] | rw [nau_len] | rw [sub_len] | rw [spl_len])) <;> omega) (by (repeat (first | rw [List.length_set] | rw [nau_len] | rw [sub_len] | rw [spl_len])) <;> omega) ?_); clear hI; intro w hI))
            refine kpost_mk ?_
            refine anyC_one (i := 15) (by kernel_rfl) (hI.sub (.cons _ (.refl _))) ?_
            refine anyC_stepl (i := 15) (by rfl) (by with_unfolding_all rfl) ?_
            go_wp2_with (first | fail)
            refine kpost_mk ?_
            refine anyC_done (by kernel_rfl) (hI.sub (.cons _ (.refl _))) ?_ _
            go_wp2_with (first | ((with_reducible refine wpList_on  (by with_unfolding_all rfl) ?_)))
            exact hQ ac tk _ _ _ _ _ _ _ _ _ _ _ _ _ _ _ _ _ _ _ _ _ _ _ _ _ _ _ _ _ _ _ _ _ _ _ _ _ _ _ h (vote_in rfl List.nodup_range him (fun _ _ _ => rfl) (hI.sub (.cons _ (.refl _))))
        · refine anyC_stepl (i := 13) (by rfl) (by with_unfolding_all rfl) ?_
          go_wp2_with (first | ((with_reducible refine wpList_alloc_ia hI (by first | with_reducible exact zi53 | with_reducible exact zi51 | with_reducible exact zi27 | with_reducible exact zi25 | with_reducible exact zi29) ?_); clear hI; intro bx w hI))
          refine kpost_mk ?_
          refine anyC_one (i := 8) (by kernel_rfl) (hI.sub (.cons _ (.refl _))) ?_
          refine anyC_stepl (i := 8) (by rfl) (by with_unfolding_all rfl) ?_
          go_wp2_with (first | (go_at_call 34; (with_reducible refine (change_any _ (pv i) 92 (vtZ v W i (vt i)) (vt i).P zl.out (hI.mbk (by (first | with_reducible exact mm0 | with_reducible exact mm1 | with_reducible exact mm2 | with_reducible exact mm3 | with_reducible exact mm4 | with_reducible exact mm5 | with_reducible exact mm6 | with_reducible exact mm7 | with_reducible exact mm8 | with_reducible exact mm9)))).mono ?_); rw [z93.out]; rintro e w1 ⟨rfl, hst, hbk⟩; replace hI := hI.mcall (by (first | with_reducible exact uu0 | with_reducible exact uu1 | with_reducible exact uu2 | with_reducible exact uu3 | with_reducible exact uu4 | with_reducible exact uu5 | with_reducible exact uu6 | with_reducible exact uu7 | with_reducible exact uu8 | with_reducible exact uu9)) hst hbk; clear hst hbk))
          refine kpost_mk ?_
          refine anyC_one (i := 9) (by kernel_rfl) (hI.sub (.cons _ (.refl _))) ?_
          refine anyC_stepl (i := 9) (by rfl) (by with_unfolding_all rfl) ?_
          go_wp2_with (first | (go_at_call 19; (with_reducible refine (put_ac_no _ (gi v 0) W i hac.out hch.out hrr.out).mono ?_); rintro e w1 ⟨rfl, hw1⟩; replace hI := hI.call hw1; clear hw1))
          refine kpost_mk ?_
          (refine anyC_take (i := 10) (v := ?_) rfl (by kernel_rfl) (by kernel_rfl) (by kernel_rfl) (fun c a w hp => hQp c a _ w (by rfl) hp) ⟨by rfl, ?_⟩ ?_; rotate_left; focus (intro w _; go_simp; with_reducible rfl))
          (simp only [Act.put, List.getElem_toArray, List.getElem_cons_succ, List.getElem_cons_zero, List.setIfInBounds_toArray, List.set_cons_succ, List.set_cons_zero])
          (refine anyC_take (i := 11) (v := ?_) rfl (by kernel_rfl) (by kernel_rfl) (by kernel_rfl) (fun c a w hp => hQp c a _ w (by rfl) hp) ⟨by rfl, ?_⟩ ?_; rotate_left; focus (intro w _; go_simp; with_reducible rfl))
          (simp only [Act.put, List.getElem_toArray, List.getElem_cons_succ, List.getElem_cons_zero, List.setIfInBounds_toArray, List.set_cons_succ, List.set_cons_zero])
          (refine anyC_take (i := 12) (v := ?_) rfl (by kernel_rfl) (by kernel_rfl) (by kernel_rfl) (fun c a w hp => hQp c a _ w (by rfl) hp) ⟨by rfl, ?_⟩ ?_; rotate_left; focus (intro w _; go_simp; with_reducible rfl))
          (simp only [Act.put, List.getElem_toArray, List.getElem_cons_succ, List.getElem_cons_zero, List.setIfInBounds_toArray, List.set_cons_succ, List.set_cons_zero])
          refine anyC_one (i := 14) (by kernel_rfl) (hI.sub (.cons _ (.refl _))) ?_
          refine anyC_stepl (i := 14) (by rfl) (by with_unfolding_all rfl) ?_
          go_wp2_with (first | ((with_reducible refine wpList_store_iw hI (by with_unfolding_all rfl) (by with_unfolding_all rfl) (by first | with_reducible exact uu0 | with_reducible exact uu1 | with_reducible exact uu2 | with_reducible exact uu3 | with_reducible exact uu4 | with_reducible exact uu5 | with_reducible exact uu6 | with_reducible exact uu7 | with_reducible exact uu8 | with_reducible exact uu9) (by first | with_reducible exact agg53 | with_reducible exact agg51 | with_reducible exact agg27 | with_reducible exact agg25 | with_reducible exact agg29 | with_reducible exact agg87) (by (repeat (first | rw [List.length_set] | rw [nau_len] | rw [sub_len] | rw [spl_len])) <;> omega) (by (repeat (first | rw [List.length_set] | rw [nau_len] | rw [sub_len] | rw [spl_len])) <;> omega) ?_); clear hI; intro w hI))
          refine kpost_mk ?_
          refine anyC_one (i := 15) (by kernel_rfl) (hI.sub (.cons _ (.refl _))) ?_
          refine anyC_stepl (i := 15) (by rfl) (by with_unfolding_all rfl) ?_
          go_wp2_with (first | fail)
          refine kpost_mk ?_
          refine anyC_done (by kernel_rfl) (hI.sub (.cons _ (.refl _))) ?_ _
          go_wp2_with (first | ((with_reducible refine wpList_on  (by with_unfolding_all rfl) ?_)))
          exact hQ ac tk _ _ _ _ _ _ _ _ _ _ _ _ _ _ _ _ _ _ _ _ _ _ _ _ _ _ _ _ _ _ _ _ _ _ _ _ _ _ _ h (vote_in rfl List.nodup_range him (fun _ _ _ => rfl) (hI.sub (.cons _ (.refl _))))
      · refine anyC_stepl (i := 13) (by rfl) (by with_unfolding_all rfl) ?_
        go_wp2_with (first | ((with_reducible refine wpList_alloc_ia hI (by first | with_reducible exact zi53 | with_reducible exact zi51 | with_reducible exact zi27 | with_reducible exact zi25 | with_reducible exact zi29) ?_); clear hI; intro bx w hI))
        refine kpost_mk ?_
        refine anyC_one (i := 6) (by kernel_rfl) (hI.sub (.cons _ (.refl _))) ?_
        refine anyC_stepl (i := 6) (by rfl) (by with_unfolding_all rfl) ?_
        go_wp2_with (first | (go_at_call 35; (with_reducible refine (ballot_any _ (pv i) 92 (vtZ v W i (vt i)) (vt i).P zl.out (hI.mbk (by (first | with_reducible exact mm0 | with_reducible exact mm1 | with_reducible exact mm2 | with_reducible exact mm3 | with_reducible exact mm4 | with_reducible exact mm5 | with_reducible exact mm6 | with_reducible exact mm7 | with_reducible exact mm8 | with_reducible exact mm9)))).mono ?_); rw [z72.out]; rintro e w1 ⟨rfl, hst, hbk⟩; replace hI := hI.mcall (by (first | with_reducible exact uu0 | with_reducible exact uu1 | with_reducible exact uu2 | with_reducible exact uu3 | with_reducible exact uu4 | with_reducible exact uu5 | with_reducible exact uu6 | with_reducible exact uu7 | with_reducible exact uu8 | with_reducible exact uu9)) hst hbk; clear hst hbk))
        refine kpost_mk ?_
        refine anyC_one (i := 8) (by kernel_rfl) (hI.sub (.cons _ (.refl _))) ?_
        refine anyC_stepl (i := 8) (by rfl) (by with_unfolding_all rfl) ?_
        go_wp2_with (first | (go_at_call 34; (with_reducible refine (change_any _ (pv i) 92 (vtZ v W i (vt i)) (vt i).P zl.out (hI.mbk (by (first | with_reducible exact mm0 | with_reducible exact mm1 | with_reducible exact mm2 | with_reducible exact mm3 | with_reducible exact mm4 | with_reducible exact mm5 | with_reducible exact mm6 | with_reducible exact mm7 | with_reducible exact mm8 | with_reducible exact mm9)))).mono ?_); rw [z93.out]; rintro e w1 ⟨rfl, hst, hbk⟩; replace hI := hI.mcall (by (first | with_reducible exact uu0 | with_reducible exact uu1 | with_reducible exact uu2 | with_reducible exact uu3 | with_reducible exact uu4 | with_reducible exact uu5 | with_reducible exact uu6 | with_reducible exact uu7 | with_reducible exact uu8 | with_reducible exact uu9)) hst hbk; clear hst hbk))
        refine kpost_mk ?_
        refine anyC_one (i := 9) (by kernel_rfl) (hI.sub (.cons _ (.refl _))) ?_
        refine anyC_stepl (i := 9) (by rfl) (by with_unfolding_all rfl) ?_
        go_wp2_with (first | (go_at_call 19; (with_reducible refine (put_ac_no _ (gi v 0) W i hac.out hch.out hrr.out).mono ?_); rintro e w1 ⟨rfl, hw1⟩; replace hI := hI.call hw1; clear hw1))
        refine kpost_mk ?_
        (refine anyC_take (i := 10) (v := ?_) rfl (by kernel_rfl) (by kernel_rfl) (by kernel_rfl) (fun c a w hp => hQp c a _ w (by rfl) hp) ⟨by rfl, ?_⟩ ?_; rotate_left; focus (intro w _; go_simp; with_reducible rfl))
        (simp only [Act.put, List.getElem_toArray, List.getElem_cons_succ, List.getElem_cons_zero, List.setIfInBounds_toArray, List.set_cons_succ, List.set_cons_zero])
        (refine anyC_take (i := 11) (v := ?_) rfl (by kernel_rfl) (by kernel_rfl) (by kernel_rfl) (fun c a w hp => hQp c a _ w (by rfl) hp) ⟨by rfl, ?_⟩ ?_; rotate_left; focus (intro w _; go_simp; with_reducible rfl))
        (simp only [Act.put, List.getElem_toArray, List.getElem_cons_succ, List.getElem_cons_zero, List.setIfInBounds_toArray, List.set_cons_succ, List.set_cons_zero])
        (refine anyC_take (i := 12) (v := ?_) rfl (by kernel_rfl) (by kernel_rfl) (by kernel_rfl) (fun c a w hp => hQp c a _ w (by rfl) hp) ⟨by rfl, ?_⟩ ?_; rotate_left; focus (intro w _; go_simp; with_reducible rfl))
        (simp only [Act.put, List.getElem_toArray, List.getElem_cons_succ, List.getElem_cons_zero, List.setIfInBounds_toArray, List.set_cons_succ, List.set_cons_zero])
        refine anyC_one (i := 14) (by kernel_rfl) (hI.sub (.cons _ (.refl _))) ?_
        refine anyC_stepl (i := 14) (by rfl) (by with_unfolding_all rfl) ?_
        go_wp2_with (first | ((with_reducible refine wpList_store_iw hI (by with_unfolding_all rfl) (by with_unfolding_all rfl) (by first | with_reducible exact uu0 | with_reducible exact uu1 | with_reducible exact uu2 | with_reducible exact uu3 | with_reducible exact uu4 | with_reducible exact uu5 | with_reducible exact uu6 | with_reducible exact uu7 | with_reducible exact uu8 | with_reducible exact uu9) (by first | with_reducible exact agg53 | with_reducible exact agg51 | with_reducible exact agg27 | with_reducible exact agg25 | with_reducible exact agg29 | with_reducible exact agg87) (by (repeat (first | rw [List.length_set] | rw [nau_len] | rw [sub_len] | rw [spl_len])) <;> omega) (by (repeat (first | rw [List.length_set] | rw [nau_len] | rw [sub_len] | rw [spl_len])) <;> omega) ?_); clear hI; intro w hI))
        refine kpost_mk ?_
        refine anyC_one (i := 15) (by kernel_rfl) (hI.sub (.cons _ (.refl _))) ?_
        refine anyC_stepl (i := 15) (by rfl) (by with_unfolding_all rfl) ?_
        go_wp2_with (first | fail)
        refine kpost_mk ?_
        refine anyC_done (by kernel_rfl) (hI.sub (.cons _ (.refl _))) ?_ _
        go_wp2_with (first | ((with_reducible refine wpList_on  (by with_unfolding_all rfl) ?_)))
        exact hQ ac tk _ _ _ _ _ _ _ _ _ _ _ _ _ _ _ _ _ _ _ _ _ _ _ _ _ _ _ _ _ _ _ _ _ _ _ _ _ _ _ h (vote_in rfl List.nodup_range him (fun _ _ _ => rfl) (hI.sub (.cons _ (.refl _))))
end Go.Proofs.Ytaeapoidigglnaa
