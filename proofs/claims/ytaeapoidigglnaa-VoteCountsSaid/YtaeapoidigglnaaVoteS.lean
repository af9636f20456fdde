/-
  The law VoteCounts: its round, behind the call's own numbers. No condition.
-/
import Derived.Test.YtaeapoidigglnaaVoteFit
import Derived.Test.YtaeapoidigglnaaVoteStep
import Derived.Test.YtaeapoidigglnaaBuild1
import Derived.Deep.CutBlock
namespace Go.Proofs.Ytaeapoidigglnaa
open Go.RowKit
set_option maxRecDepth 100000
def nx : Code → Code
  | .seq _ c => c
  | c => c
def fs : Code → Code
  | .seq a _ => a
  | c => c
def cblk : Code → Code
  | .block _ b => b
  | c => c
def lpb : Code → Code
  | .loop b => b
  | c => c
theorem four (a b c : Bool) : a = true ∨ (a = false ∧ b = true) ∨ (a = false ∧ b = false ∧ c = true) ∨ (a = false ∧ b = false ∧ c = false) := by cases a <;> cases b <;> cases c <;> simp
theorem arr57 : ArrT Try.prog 57 3 3 1 := ⟨by kernel_rfl, by kernel_rfl⟩
theorem agg57 : AggT Try.prog 57 3 := ⟨by kernel_rfl, by kernel_rfl⟩
set_option maxHeartbeats 12800000 in
theorem vs_walk {Q : Exit → Act → World → Prop} {w0 w : World} {ch x hd d ww h' : List Int} {V K : Int} {P o mem : Bool} {who : Nat} {b2 b5 b6 p b10 b11 b14 b16 b17 b19 : Nat} {s1 s3 s4 s13 s21 s22 s23 s24 s25 s26 s27 s28 s29 s30 s31 s32 s33 s34 s35 s36 s37 s38 s39 s40 s41 s42 s43 s44 s45 s46 s47 s48 s49 s50 s51 s52 s53 s54 s55 s56 s57 s58 s59 s60 s61 s62 s63 s64 s65 s66 s67 s68 s69 s70 s71 s72 s73 s74 s75 s76 s77 s78 s79 s80 s81 s82 s83 s84 s85 s86 s87 s88 s89 s90 s91 s92 s93 s94 s95 s96 s97 s98 s99 s100 s101 s102 s103 s104 s105 s106 s107 s108 s109 s110 s111 s112 s113 s114 s115 s116 s117 s118 s119 s120 s121 s122 s123 s124 s125 s126 s127 s128 s129 s130 s131 s132 s133 s134 s135 s136 s137 s138 s139 s140 s141 s142 s143 s144 s145 s146 s147 s148 s149 s150 s151 s152 s153 s154 s155 s156 s157 s158 s159 s160 s161 s162 s163 s164 s165 s166 s167 s168 s169 s170 s171 s172 s173 s174 s175 s176 s177 s178 s179 s180 s181 s182 : Value}
    (hmem : decide (who < 3) = mem) (hx : x.length = 3) (hd2 : hd.length = 2) (hd3 : d.length = 3) (hw3 : ww.length = 3) (hh2 : h'.length = 2) (hV0 : 0 ≤ V) (hV7 : V ≤ 7) (hK0 : 0 ≤ K) (hK7 : K ≤ 7)
    (hQ : ∀ (V' K' : Int) (P' : Bool) (w2 h2 : List Int) (wx : World) (u4 u21 u22 u70 u71 u72 u73 u74 u75 u76 u77 u78 u79 u80 u81 u82 u83 u84 u85 u86 u87 u88 u89 u90 u91 u92 u93 u94 u95 u96 u97 u98 u99 u100 u101 u102 u103 u104 u105 u106 u107 u108 u109 u110 u111 u112 u113 u114 u115 u116 u117 u118 u119 u120 u121 u122 u123 u124 u125 u126 u127 u128 u129 u130 u131 u132 u133 u134 u135 u136 u137 u138 u139 u140 u141 u142 u143 u144 u145 u146 u147 u148 u149 u150 u151 u152 u153 u154 u155 u156 u157 u158 u159 u160 u161 u162 u163 u164 u165 u166 u167 u168 u169 u170 u171 u172 u173 u174 u175 u176 u177 u178 u179 u180 u181 : Value), Hid (w2.length = 3 ∧ h2.length = 2 ∧ 0 ≤ V' ∧ V' ≤ 7 ∧ 0 ≤ K' ∧ K' ≤ 7) → Inv [] w0 wx [ib b19 25 (tryB o), ib b17 27 d, ib b16 25 hd, ib b14 57 x, ib b11 25 h2, ib b10 27 w2, ibb p 92 (stZ w2 h2 V' K') [P'], ib b6 25 [3, 1], ib b5 53 firstV, ib b2 27 ch] → Q .normal { tmps := #[ia ch, s1, .pointer (some ⟨b2, 0, none⟩), s3, u4, .pointer (some ⟨b5, 0, none⟩), .pointer (some ⟨b6, 0, none⟩), .pointer (some ⟨p, 0, none⟩), .int .i64 V', .int .i64 K', .pointer (some ⟨b10, 0, none⟩), .pointer (some ⟨b11, 0, none⟩), .bool P', s13, .pointer (some ⟨b14, 0, none⟩), .int .i64 who, .pointer (some ⟨b16, 0, none⟩), .pointer (some ⟨b17, 0, none⟩), .bool o, .pointer (some ⟨b19, 0, none⟩), .bool mem, u21, u22, s23, s24, s25, s26, s27, s28, s29, s30, s31, s32, s33, s34, s35, s36, s37, s38, s39, s40, s41, s42, s43, s44, s45, s46, s47, s48, s49, s50, s51, s52, s53, s54, s55, s56, s57, s58, s59, s60, s61, s62, s63, s64, s65, s66, s67, s68, s69, u70, u71, u72, u73, u74, u75, u76, u77, u78, u79, u80, u81, u82, u83, u84, u85, u86, u87, u88, u89, u90, u91, u92, u93, u94, u95, u96, u97, u98, u99, u100, u101, u102, u103, u104, u105, u106, u107, u108, u109, u110, u111, u112, u113, u114, u115, u116, u117, u118, u119, u120, u121, u122, u123, u124, u125, u126, u127, u128, u129, u130, u131, u132, u133, u134, u135, u136, u137, u138, u139, u140, u141, u142, u143, u144, u145, u146, u147, u148, u149, u150, u151, u152, u153, u154, u155, u156, u157, u158, u159, u160, u161, u162, u163, u164, u165, u166, u167, u168, u169, u170, u171, u172, u173, u174, u175, u176, u177, u178, u179, u180, u181, s182], defers := [] } wx)
    (hI : Inv [] w0 w [ib b19 25 (tryB o), ib b17 27 d, ib b16 25 hd, ib b14 57 x, ib b11 25 h', ib b10 27 ww, ibb p 92 (stZ ww h' V K) [P], ib b6 25 [3, 1], ib b5 53 firstV, ib b2 27 ch]) :
    Code.wp Try.prog (nx (nx (nx (nx (nx (nx (nx (nx (cblk (fs (nx (nx (lpb (cblk (nx (fs (nx (nx (nx (nx (nx (nx (nx (nx (nx (nx (Try.f11.body.getD .skip))))))))))))))))))))))))))) Q { tmps := #[ia ch, s1, .pointer (some ⟨b2, 0, none⟩), s3, s4, .pointer (some ⟨b5, 0, none⟩), .pointer (some ⟨b6, 0, none⟩), .pointer (some ⟨p, 0, none⟩), .int .i64 V, .int .i64 K, .pointer (some ⟨b10, 0, none⟩), .pointer (some ⟨b11, 0, none⟩), .bool P, s13, .pointer (some ⟨b14, 0, none⟩), .int .i64 who, .pointer (some ⟨b16, 0, none⟩), .pointer (some ⟨b17, 0, none⟩), .bool o, .pointer (some ⟨b19, 0, none⟩), .bool mem, s21, s22, s23, s24, s25, s26, s27, s28, s29, s30, s31, s32, s33, s34, s35, s36, s37, s38, s39, s40, s41, s42, s43, s44, s45, s46, s47, s48, s49, s50, s51, s52, s53, s54, s55, s56, s57, s58, s59, s60, s61, s62, s63, s64, s65, s66, s67, s68, s69, s70, s71, s72, s73, s74, s75, s76, s77, s78, s79, s80, s81, s82, s83, s84, s85, s86, s87, s88, s89, s90, s91, s92, s93, s94, s95, s96, s97, s98, s99, s100, s101, s102, s103, s104, s105, s106, s107, s108, s109, s110, s111, s112, s113, s114, s115, s116, s117, s118, s119, s120, s121, s122, s123, s124, s125, s126, s127, s128, s129, s130, s131, s132, s133, s134, s135, s136, s137, s138, s139, s140, s141, s142, s143, s144, s145, s146, s147, s148, s149, s150, s151, s152, s153, s154, s155, s156, s157, s158, s159, s160, s161, s162, s163, s164, s165, s166, s167, s168, s169, s170, s171, s172, s173, s174, s175, s176, s177, s178, s179, s180, s181, s182], defers := [] } w := by
  have htl := tryB_len o
  have hact0 : Hid (actB P o who = (!P && o && mem)) := Lib.hid (by unfold actB; rw [hmem])
  have htak0 : Hid (takB P o who = (P && o && mem)) := Lib.hid (by unfold takB; rw [hmem])
  have hm3 : Hid (mem = true → who < 3) := Lib.hid (fun h => by rw [h] at hmem; simpa using hmem)
  clear hmem
  dsimp only [nx, fs, cblk, lpb, Try.f11, Option.getD]
  go_upto_if 73 with (first | ((with_reducible refine wpList_load_i1 hI (by with_unfolding_all rfl) (by first | with_reducible exact mm0 | with_reducible exact mm1 | with_reducible exact mm2 | with_reducible exact mm3 | with_reducible exact mm4 | with_reducible exact mm5 | with_reducible exact mm6 | with_reducible exact mm7 | with_reducible exact mm8 | with_reducible exact mm9) (by first | with_reducible exact one3 | with_reducible exact one4 | with_reducible exact one40) (by (repeat (first | rw [List.length_set] | rw [nau_len] | rw [sub_len] | rw [spl_len])) <;> omega) ?_)))
  (try simp only [Act.put, List.setIfInBounds_toArray, List.set_cons_succ, List.set_cons_zero])
  go_cut [8, 9, 12, 21, 22] from 70 to 181 (fun u8 u9 u12 u21 u22 wx => ∃ (V' K' : Int) (P' : Bool) (w2 h2 : List Int), u8 = .int .i64 V' ∧ u9 = .int .i64 K' ∧ u12 = .bool P' ∧ Hid (w2.length = 3 ∧ h2.length = 2 ∧ 0 ≤ V' ∧ V' ≤ 7 ∧ 0 ≤ K' ∧ K' ≤ 7) ∧ Inv [] w0 wx [ib b19 25 (tryB o), ib b17 27 d, ib b16 25 hd, ib b14 57 x, ib b11 25 h2, ib b10 27 w2, ibb p 92 (stZ w2 h2 V' K') [P'], ib b6 25 [3, 1], ib b5 53 firstV, ib b2 27 ch])
  case first =>
    clear hQ
    cases hkd : (bits BinOp.and IntKind.i64 (gi x 2) 1 == 0)
    · clear hkd
      go_upto_region 34 with fail
      go_cut [141] from 135 to 140 (fun u wx => u = .bool (takB P o who) ∧ Inv [] w0 wx [ib b19 25 (tryB o), ib b17 27 d, ib b16 25 hd, ib b14 57 x, ib b11 25 h', ib b10 27 ww, ibb p 92 (stZ ww h' V K) [P], ib b6 25 [3, 1], ib b5 53 firstV, ib b2 27 ch])
      case first =>
        cases P
        · go_wp2_with (first | ((with_reducible refine wpList_on  (by with_unfolding_all rfl) ?_)))
          go_meet
          case rel => exact ⟨by rw [htak0.out]; rfl, hI⟩
        · cases o
          · go_wp2_with (first | ((with_reducible refine wpList_on  (by with_unfolding_all rfl) ?_)))
            go_meet
            case rel => exact ⟨by rw [htak0.out]; rfl, hI⟩
          · go_wp2_with (first | ((with_reducible refine wpList_on  (by with_unfolding_all rfl) ?_)))
            go_meet
            case rel => exact ⟨by rw [htak0.out]; rfl, hI⟩
      case rest =>
        clear hI
        obtain ⟨rfl, hI⟩ := hcut
        cases hact : takB P o who
        · have hvo : Hid ((takB P o who && many (orV K who)) = false) := Lib.hid (by rw [hact]; rfl)
          have hvz : Hid (stZ ww h' V (if takB P o who = true then orV K who else K) = stZ ww h' V K) := Lib.hid (by rw [hact]; rfl)
          clear hact
          go_wp2_with (first | ((with_reducible refine wpList_load_iw hI (by with_unfolding_all rfl) (by first | with_reducible exact mm0 | with_reducible exact mm1 | with_reducible exact mm2 | with_reducible exact mm3 | with_reducible exact mm4 | with_reducible exact mm5 | with_reducible exact mm6 | with_reducible exact mm7 | with_reducible exact mm8 | with_reducible exact mm9) (by first | with_reducible exact agg53 | with_reducible exact agg51 | with_reducible exact agg27 | with_reducible exact agg25 | with_reducible exact agg57) (by (repeat (first | rw [List.length_set] | rw [nau_len] | rw [sub_len] | rw [spl_len])) <;> omega) ?_)) | (go_at_call 32; (with_reducible refine (taken_st _ p 92 V K P o hw3 hh2 (hI.mbk (by (first | with_reducible exact mm0 | with_reducible exact mm1 | with_reducible exact mm2 | with_reducible exact mm3 | with_reducible exact mm4 | with_reducible exact mm5 | with_reducible exact mm6 | with_reducible exact mm7 | with_reducible exact mm8 | with_reducible exact mm9))) who).mono ?_); rw [hvo.out, hvz.out]; rintro e w1 ⟨rfl, hst, hbk⟩; replace hI := hI.mcall (by (first | with_reducible exact uu0 | with_reducible exact uu1 | with_reducible exact uu2 | with_reducible exact uu3 | with_reducible exact uu4 | with_reducible exact uu5 | with_reducible exact uu6 | with_reducible exact uu7 | with_reducible exact uu8 | with_reducible exact uu9)) hst hbk; clear hst hbk))
          go_meet
          case rel => exact ⟨V, K, P, ww, h', rfl, rfl, rfl, Lib.hid ⟨hw3, hh2, hV0, hV7, hK0, hK7⟩, hI⟩
        · have hwho : who < 3 := by
            have hq := hact
            rw [htak0.out] at hq
            simp only [Bool.and_eq_true] at hq
            exact hm3.out hq.2
          have hr := orV_range hK0 hK7 hwho
          have hme := Lib.hid (many_eq hr.1 hr.2)
          have hwr := Lib.hid (wrap_pow (show who < 5 by omega))
          have hnat : (who : Int).toNat = who := by simp
          have hsh : who < 64 := by omega
          obtain ⟨K', hK'⟩ : ∃ K', orV K who = K' := ⟨_, rfl⟩
          have hor : Hid (bits BinOp.or IntKind.i64 K (2 ^ who) = K') := Lib.hid hK'
          rw [hK'] at hr hme
          have hvo : Hid ((takB P o who && many (orV K who)) = many K') := Lib.hid (by rw [hact, hK']; rfl)
          have hvz : Hid (stZ ww h' V (if takB P o who = true then orV K who else K) = stZ ww h' V K') := Lib.hid (by rw [hact, hK']; rfl)
          clear hact hK'
          go_upto_region 36 with fail
          rw [hwr.out, hor.out]
          (try simp only [Act.put, List.setIfInBounds_toArray, List.set_cons_succ, List.set_cons_zero])
          go_cut [22] from 146 to 159 (fun u wx => u = .bool (many K') ∧ Inv [] w0 wx [ib b19 25 (tryB o), ib b17 27 d, ib b16 25 hd, ib b14 57 x, ib b11 25 h', ib b10 27 ww, ibb p 92 (stZ ww h' V K) [P], ib b6 25 [3, 1], ib b5 53 firstV, ib b2 27 ch])
          case first =>
            rcases four (K' == 3) (K' == 5) (K' == 6) with h3 | ⟨h3, h5⟩ | ⟨h3, h5, h6⟩ | ⟨h3, h5, h6⟩
            · go_wp2_with (first | ((with_reducible refine wpList_on  (by with_unfolding_all rfl) ?_)))
              go_meet
              case rel => exact ⟨by rw [hme.out, h3]; rfl, hI⟩
            · go_wp2_with (first | ((with_reducible refine wpList_on  (by with_unfolding_all rfl) ?_)))
              go_meet
              case rel => exact ⟨by rw [hme.out, h3, h5]; rfl, hI⟩
            · go_wp2_with (first | ((with_reducible refine wpList_on  (by with_unfolding_all rfl) ?_)))
              go_meet
              case rel => exact ⟨by rw [hme.out, h3, h5, h6]; rfl, hI⟩
            · go_wp2_with (first | ((with_reducible refine wpList_on  (by with_unfolding_all rfl) ?_)))
              go_meet
              case rel => exact ⟨by rw [hme.out, h3, h5, h6]; rfl, hI⟩
          case rest =>
            clear hI
            obtain ⟨rfl, hI⟩ := hcut
            generalize many K' = mk at *
            have hbb : (mk != mk) = false := by simp
            go_wp2_with (first | ((with_reducible refine wpList_load_iw hI (by with_unfolding_all rfl) (by first | with_reducible exact mm0 | with_reducible exact mm1 | with_reducible exact mm2 | with_reducible exact mm3 | with_reducible exact mm4 | with_reducible exact mm5 | with_reducible exact mm6 | with_reducible exact mm7 | with_reducible exact mm8 | with_reducible exact mm9) (by first | with_reducible exact agg53 | with_reducible exact agg51 | with_reducible exact agg27 | with_reducible exact agg25 | with_reducible exact agg57) (by (repeat (first | rw [List.length_set] | rw [nau_len] | rw [sub_len] | rw [spl_len])) <;> omega) ?_)) | (go_at_call 32; (with_reducible refine (taken_st _ p 92 V K P o hw3 hh2 (hI.mbk (by (first | with_reducible exact mm0 | with_reducible exact mm1 | with_reducible exact mm2 | with_reducible exact mm3 | with_reducible exact mm4 | with_reducible exact mm5 | with_reducible exact mm6 | with_reducible exact mm7 | with_reducible exact mm8 | with_reducible exact mm9))) who).mono ?_); rw [hvo.out, hvz.out]; rintro e w1 ⟨rfl, hst, hbk⟩; replace hI := hI.mcall (by (first | with_reducible exact uu0 | with_reducible exact uu1 | with_reducible exact uu2 | with_reducible exact uu3 | with_reducible exact uu4 | with_reducible exact uu5 | with_reducible exact uu6 | with_reducible exact uu7 | with_reducible exact uu8 | with_reducible exact uu9)) hst hbk; clear hst hbk))
            go_meet
            case rel => exact ⟨V, K', P, ww, h', rfl, rfl, rfl, Lib.hid ⟨hw3, hh2, hV0, hV7, hr.1, hr.2⟩, hI⟩
    · clear hkd
      go_upto_region 25 with fail
      go_cut [81] from 74 to 80 (fun u wx => u = .bool (actB P o who) ∧ Inv [] w0 wx [ib b19 25 (tryB o), ib b17 27 d, ib b16 25 hd, ib b14 57 x, ib b11 25 h', ib b10 27 ww, ibb p 92 (stZ ww h' V K) [P], ib b6 25 [3, 1], ib b5 53 firstV, ib b2 27 ch])
      case first =>
        cases P
        · cases o
          · go_wp2_with (first | ((with_reducible refine wpList_on  (by with_unfolding_all rfl) ?_)))
            go_meet
            case rel => exact ⟨by rw [hact0.out]; rfl, hI⟩
          · go_wp2_with (first | ((with_reducible refine wpList_on  (by with_unfolding_all rfl) ?_)))
            go_meet
            case rel => exact ⟨by rw [hact0.out]; rfl, hI⟩
        · go_wp2_with (first | ((with_reducible refine wpList_on  (by with_unfolding_all rfl) ?_)))
          go_meet
          case rel => exact ⟨by rw [hact0.out]; rfl, hI⟩
      case rest =>
        clear hI
        obtain ⟨rfl, hI⟩ := hcut
        cases hact : actB P o who
        · have hvo : Hid ((actB P o who && many (orV V who)) = false) := Lib.hid (by rw [hact]; rfl)
          have hvm : Hid (mix (stZ (if (actB P o who && lateB h' hd) = true then d else ww) (if (actB P o who && lateB h' hd) = true then hd else h') (if actB P o who = true then orV V who else V) K) [if actB P o who = true then many (orV V who) else P] = mix (stZ ww h' V K) [P]) := Lib.hid (by rw [hact]; rfl)
          clear hact
          go_wp2_with (first | ((with_reducible refine wpList_load_iw hI (by with_unfolding_all rfl) (by first | with_reducible exact mm0 | with_reducible exact mm1 | with_reducible exact mm2 | with_reducible exact mm3 | with_reducible exact mm4 | with_reducible exact mm5 | with_reducible exact mm6 | with_reducible exact mm7 | with_reducible exact mm8 | with_reducible exact mm9) (by first | with_reducible exact agg53 | with_reducible exact agg51 | with_reducible exact agg27 | with_reducible exact agg25 | with_reducible exact agg57) (by (repeat (first | rw [List.length_set] | rw [nau_len] | rw [sub_len] | rw [spl_len])) <;> omega) ?_)) | (go_at_call 31; (with_reducible refine (vowed_st _ p 92 V K P o hw3 hh2 (hI.mbk (by (first | with_reducible exact mm0 | with_reducible exact mm1 | with_reducible exact mm2 | with_reducible exact mm3 | with_reducible exact mm4 | with_reducible exact mm5 | with_reducible exact mm6 | with_reducible exact mm7 | with_reducible exact mm8 | with_reducible exact mm9))) who hd d hd2 hd3).mono ?_); rw [hvo.out, hvm.out]; rintro e w1 ⟨rfl, hst, hbk⟩; replace hI := hI.mcall (by (first | with_reducible exact uu0 | with_reducible exact uu1 | with_reducible exact uu2 | with_reducible exact uu3 | with_reducible exact uu4 | with_reducible exact uu5 | with_reducible exact uu6 | with_reducible exact uu7 | with_reducible exact uu8 | with_reducible exact uu9)) hst hbk; clear hst hbk))
          go_meet
          case rel => exact ⟨V, K, P, ww, h', rfl, rfl, rfl, Lib.hid ⟨hw3, hh2, hV0, hV7, hK0, hK7⟩, hI⟩
        · have hwho : who < 3 := by
            have hq := hact
            rw [hact0.out] at hq
            simp only [Bool.and_eq_true] at hq
            exact hm3.out hq.2
          have hr := orV_range hV0 hV7 hwho
          have hme := Lib.hid (many_eq hr.1 hr.2)
          have hwr := Lib.hid (wrap_pow (show who < 5 by omega))
          have hnat : (who : Int).toNat = who := by simp
          have hsh : who < 64 := by omega
          obtain ⟨V', hV'⟩ : ∃ V', orV V who = V' := ⟨_, rfl⟩
          have hor : Hid (bits BinOp.or IntKind.i64 V (2 ^ who) = V') := Lib.hid hV'
          rw [hV'] at hr hme
          obtain ⟨lt, hlt⟩ : ∃ lt, lateB h' hd = lt := ⟨_, rfl⟩
          obtain ⟨w2, hw2⟩ : ∃ w2, (if lt = true then d else ww) = w2 := ⟨_, rfl⟩
          obtain ⟨h2, hh2'⟩ : ∃ h2, (if lt = true then hd else h') = h2 := ⟨_, rfl⟩
          have lw2 : w2.length = 3 := by rw [← hw2]; split <;> assumption
          have lh2 : h2.length = 2 := by rw [← hh2']; split <;> assumption
          have hvo : Hid ((actB P o who && many (orV V who)) = many V') := Lib.hid (by rw [hact, hV']; rfl)
          have hvm : Hid (mix (stZ (if (actB P o who && lateB h' hd) = true then d else ww) (if (actB P o who && lateB h' hd) = true then hd else h') (if actB P o who = true then orV V who else V) K) [if actB P o who = true then many (orV V who) else P] = mix (stZ w2 h2 V' K) [many V']) := Lib.hid (by rw [hact, hlt, hV', Bool.true_and, if_pos rfl, if_pos rfl, hw2, hh2'])
          have hlt' := Lib.hid hlt
          replace hw2 := Lib.hid hw2
          replace hh2' := Lib.hid hh2'
          clear hact hV' hlt
          go_upto_region 26 with fail
          go_cut [105] from 82 to 104 (fun u wx => u = .bool lt ∧ Inv [] w0 wx [ib b19 25 (tryB o), ib b17 27 d, ib b16 25 hd, ib b14 57 x, ib b11 25 h', ib b10 27 ww, ibb p 92 (stZ ww h' V K) [P], ib b6 25 [3, 1], ib b5 53 firstV, ib b2 27 ch])
          case first =>
            clear hvm hvo
            by_cases c1 : 0 < gi hd 0
            · have e1 : decide (0 < gi hd 0) = true := by simpa using c1
              by_cases c2 : gi h' 0 < gi hd 0
              · have e2 : decide (gi h' 0 < gi hd 0) = true := by simpa using c2
                have hv : lt = true := by rw [← hlt'.out]; unfold lateB lessB; rw [e1, if_neg (by omega), e2]; rfl
                clear c1 c2
                go_wp2_with (first | ((with_reducible refine wpList_on  (by with_unfolding_all rfl) ?_)) | ((with_reducible refine wpList_load_i1 hI (by with_unfolding_all rfl) (by first | with_reducible exact mm0 | with_reducible exact mm1 | with_reducible exact mm2 | with_reducible exact mm3 | with_reducible exact mm4 | with_reducible exact mm5 | with_reducible exact mm6 | with_reducible exact mm7 | with_reducible exact mm8 | with_reducible exact mm9) (by first | with_reducible exact one3 | with_reducible exact one4 | with_reducible exact one40) (by (repeat (first | rw [List.length_set] | rw [nau_len] | rw [sub_len] | rw [spl_len])) <;> omega) ?_)))
                go_meet
                case rel => exact ⟨by rw [hv], hI⟩
              · have e2 : decide (gi h' 0 < gi hd 0) = false := by simpa using c2
                by_cases c3 : gi hd 0 = gi h' 0
                · have e3 : (gi hd 0 == gi h' 0) = true := by simp [c3]
                  have hv : lt = decide (gi h' 1 < gi hd 1) := by rw [← hlt'.out]; unfold lateB lessB; rw [e1, if_pos c3.symm]; rfl
                  clear c1 c2 c3
                  go_wp2_with (first | ((with_reducible refine wpList_on  (by with_unfolding_all rfl) ?_)) | ((with_reducible refine wpList_load_i1 hI (by with_unfolding_all rfl) (by first | with_reducible exact mm0 | with_reducible exact mm1 | with_reducible exact mm2 | with_reducible exact mm3 | with_reducible exact mm4 | with_reducible exact mm5 | with_reducible exact mm6 | with_reducible exact mm7 | with_reducible exact mm8 | with_reducible exact mm9) (by first | with_reducible exact one3 | with_reducible exact one4 | with_reducible exact one40) (by (repeat (first | rw [List.length_set] | rw [nau_len] | rw [sub_len] | rw [spl_len])) <;> omega) ?_)))
                  go_meet
                  case rel => exact ⟨by rw [hv], hI⟩
                · have e3 : (gi hd 0 == gi h' 0) = false := by simp [c3]
                  have hv : lt = false := by rw [← hlt'.out]; unfold lateB lessB; rw [e1, if_neg (fun h => c3 h.symm), e2]; rfl
                  clear c1 c2 c3
                  go_wp2_with (first | ((with_reducible refine wpList_on  (by with_unfolding_all rfl) ?_)) | ((with_reducible refine wpList_load_i1 hI (by with_unfolding_all rfl) (by first | with_reducible exact mm0 | with_reducible exact mm1 | with_reducible exact mm2 | with_reducible exact mm3 | with_reducible exact mm4 | with_reducible exact mm5 | with_reducible exact mm6 | with_reducible exact mm7 | with_reducible exact mm8 | with_reducible exact mm9) (by first | with_reducible exact one3 | with_reducible exact one4 | with_reducible exact one40) (by (repeat (first | rw [List.length_set] | rw [nau_len] | rw [sub_len] | rw [spl_len])) <;> omega) ?_)))
                  go_meet
                  case rel => exact ⟨by rw [hv], hI⟩
            · have e1 : decide (0 < gi hd 0) = false := by simpa using c1
              have hv : lt = false := by rw [← hlt'.out]; unfold lateB; rw [e1]; rfl
              clear c1
              go_wp2_with (first | ((with_reducible refine wpList_on  (by with_unfolding_all rfl) ?_)) | ((with_reducible refine wpList_load_i1 hI (by with_unfolding_all rfl) (by first | with_reducible exact mm0 | with_reducible exact mm1 | with_reducible exact mm2 | with_reducible exact mm3 | with_reducible exact mm4 | with_reducible exact mm5 | with_reducible exact mm6 | with_reducible exact mm7 | with_reducible exact mm8 | with_reducible exact mm9) (by first | with_reducible exact one3 | with_reducible exact one4 | with_reducible exact one40) (by (repeat (first | rw [List.length_set] | rw [nau_len] | rw [sub_len] | rw [spl_len])) <;> omega) ?_)))
              go_meet
              case rel => exact ⟨by rw [hv], hI⟩
          case rest =>
            clear hI
            obtain ⟨rfl, hI⟩ := hcut
            go_upto_if 105 with fail
            go_cut [] from 106 to 107 (fun wx => Inv [] w0 wx [ib b19 25 (tryB o), ib b17 27 d, ib b16 25 hd, ib b14 57 x, ib b11 25 h2, ib b10 27 w2, ibb p 92 (stZ ww h' V K) [P], ib b6 25 [3, 1], ib b5 53 firstV, ib b2 27 ch])
            case first =>
              clear hvm hvo
              cases lt
              · go_wp2_with fail
                go_meet
                case rel =>
                  have q1 : ww = w2 := hw2.out
                  have q2 : h' = h2 := hh2'.out
                  rw [← q1, ← q2]
                  exact hI
              · go_upto_region 27 with fail
                (try simp only [Act.put, List.setIfInBounds_toArray, List.set_cons_succ, List.set_cons_zero])
                (obtain ⟨mE, hmE⟩ := inv_list hI; refine wp_region_reg (C := fun w' => Inv _ _ w' _) [2, 3] (fun w' => Inv _ _ w' (List.eraseIdx (List.eraseIdx mE 5) 4)) hI.drew (fun w' h => Inv.sub h (by subst hmE; ((try simp only [List.eraseIdx_cons_succ, List.eraseIdx_cons_zero]); repeat (first | exact List.Sublist.slnil | with_reducible apply List.Sublist.cons_cons | apply List.Sublist.cons)))) mixed (by kernel_rfl) ?_; subst hmE; clear hI; ((with_reducible apply wpReg_read); rfl; rfl; (focus ((intro w hI0; have hI : Inv _ _ w _ := hI0; clear hI0); ((with_reducible refine wpList_load_iw hI (by with_unfolding_all rfl) (by first | with_reducible exact mm0 | with_reducible exact mm1 | with_reducible exact mm2 | with_reducible exact mm3 | with_reducible exact mm4 | with_reducible exact mm5 | with_reducible exact mm6 | with_reducible exact mm7 | with_reducible exact mm8 | with_reducible exact mm9) (by first | with_reducible exact agg53 | with_reducible exact agg51 | with_reducible exact agg27 | with_reducible exact agg25 | with_reducible exact agg57) (by (repeat (first | rw [List.length_set] | rw [nau_len] | rw [sub_len] | rw [spl_len])) <;> omega) ?_)); (try simp only [Act.put, List.setIfInBounds_toArray, List.set_cons_succ, List.set_cons_zero]); exact (show regPost _ _ .normal _ _ from ⟨rfl, rfl, hI⟩))); (first | exact ⟨_, rfl⟩ | exact ⟨undef, rfl⟩)); ((with_reducible apply wpReg_pure); rfl; rfl; (focus (intro D w hD hE; have hI : Inv _ _ w _ := hE; (try simp only [List.eraseIdx_cons_succ, List.eraseIdx_cons_zero] at hI); ((with_reducible refine wpList_load_iw hI (by with_unfolding_all rfl) (by first | with_reducible exact mm0 | with_reducible exact mm1 | with_reducible exact mm2 | with_reducible exact mm3 | with_reducible exact mm4 | with_reducible exact mm5 | with_reducible exact mm6 | with_reducible exact mm7 | with_reducible exact mm8 | with_reducible exact mm9) (by first | with_reducible exact agg53 | with_reducible exact agg51 | with_reducible exact agg27 | with_reducible exact agg25 | with_reducible exact agg57) (by (repeat (first | rw [List.length_set] | rw [nau_len] | rw [sub_len] | rw [spl_len])) <;> omega) ?_)); (try simp only [Act.put, List.setIfInBounds_toArray, List.set_cons_succ, List.set_cons_zero]); exact (show regPost _ _ .normal _ _ from ⟨rfl, rfl, hD⟩))); (first | exact ⟨_, rfl⟩ | exact ⟨undef, rfl⟩)); ((with_reducible apply wpReg_store); rfl; rfl; rfl; (focus ((intro w hI0; have hI : Inv _ _ w _ := hI0; clear hI0); ((with_reducible refine wpList_store_iw hI (by with_unfolding_all rfl) (by with_unfolding_all rfl) (by first | with_reducible exact uu0 | with_reducible exact uu1 | with_reducible exact uu2 | with_reducible exact uu3 | with_reducible exact uu4 | with_reducible exact uu5 | with_reducible exact uu6 | with_reducible exact uu7 | with_reducible exact uu8 | with_reducible exact uu9) (by first | with_reducible exact agg53 | with_reducible exact agg51 | with_reducible exact agg27 | with_reducible exact agg25 | with_reducible exact agg57) (by (repeat (first | rw [List.length_set] | rw [nau_len] | rw [sub_len] | rw [spl_len])) <;> omega) (by (repeat (first | rw [List.length_set] | rw [nau_len] | rw [sub_len] | rw [spl_len])) <;> omega) ?_); clear hI; intro w hI); (try simp only [Act.put, List.setIfInBounds_toArray, List.set_cons_succ, List.set_cons_zero]); exact (show regPost _ _ .normal _ _ from ⟨rfl, rfl, hI⟩))); (first | exact ⟨_, rfl⟩ | exact ⟨undef, rfl⟩); (focus ((intro w hI0; have hI : Inv _ _ w _ := hI0; clear hI0); exact Inv.sub hI (by ((try simp only [List.eraseIdx_cons_succ, List.eraseIdx_cons_zero]); repeat (first | exact List.Sublist.slnil | with_reducible apply List.Sublist.cons_cons | apply List.Sublist.cons)))))); ((with_reducible apply wpReg_store); rfl; rfl; rfl; (focus ((intro w hI0; have hI : Inv _ _ w _ := hI0; clear hI0); ((with_reducible refine wpList_store_iw hI (by with_unfolding_all rfl) (by with_unfolding_all rfl) (by first | with_reducible exact uu0 | with_reducible exact uu1 | with_reducible exact uu2 | with_reducible exact uu3 | with_reducible exact uu4 | with_reducible exact uu5 | with_reducible exact uu6 | with_reducible exact uu7 | with_reducible exact uu8 | with_reducible exact uu9) (by first | with_reducible exact agg53 | with_reducible exact agg51 | with_reducible exact agg27 | with_reducible exact agg25 | with_reducible exact agg57) (by (repeat (first | rw [List.length_set] | rw [nau_len] | rw [sub_len] | rw [spl_len])) <;> omega) (by (repeat (first | rw [List.length_set] | rw [nau_len] | rw [sub_len] | rw [spl_len])) <;> omega) ?_); clear hI; intro w hI); (try simp only [Act.put, List.setIfInBounds_toArray, List.set_cons_succ, List.set_cons_zero]); exact (show regPost _ _ .normal _ _ from ⟨rfl, rfl, hI⟩))); (first | exact ⟨_, rfl⟩ | exact ⟨undef, rfl⟩); (focus ((intro w hI0; have hI : Inv _ _ w _ := hI0; clear hI0); exact Inv.sub hI (by ((try simp only [List.eraseIdx_cons_succ, List.eraseIdx_cons_zero]); repeat (first | exact List.Sublist.slnil | with_reducible apply List.Sublist.cons_cons | apply List.Sublist.cons)))))); ((with_reducible refine wpReg_nil ?_); intro w hI0; have hI : Inv _ _ w _ := hI0; clear hI0))
                (try simp only [Act.put, List.setIfInBounds_toArray, List.set_cons_succ, List.set_cons_zero])
                go_wp2_with fail
                go_meet
                case rel =>
                  have q1 : d = w2 := hw2.out
                  have q2 : hd = h2 := hh2'.out
                  rw [← q1, ← q2]
                  exact hI
            case rest =>
              clear hI
              have hI := hcut
              clear hcut
              go_upto_region 29 with fail
              rw [hwr.out, hor.out]
              (try simp only [Act.put, List.setIfInBounds_toArray, List.set_cons_succ, List.set_cons_zero])
              go_cut [12] from 112 to 125 (fun u wx => u = .bool (many V') ∧ Inv [] w0 wx [ib b19 25 (tryB o), ib b17 27 d, ib b16 25 hd, ib b14 57 x, ib b11 25 h2, ib b10 27 w2, ibb p 92 (stZ ww h' V K) [P], ib b6 25 [3, 1], ib b5 53 firstV, ib b2 27 ch])
              case first =>
                rcases four (V' == 3) (V' == 5) (V' == 6) with h3 | ⟨h3, h5⟩ | ⟨h3, h5, h6⟩ | ⟨h3, h5, h6⟩
                · go_wp2_with (first | ((with_reducible refine wpList_on  (by with_unfolding_all rfl) ?_)))
                  go_meet
                  case rel => exact ⟨by rw [hme.out, h3]; rfl, hI⟩
                · go_wp2_with (first | ((with_reducible refine wpList_on  (by with_unfolding_all rfl) ?_)))
                  go_meet
                  case rel => exact ⟨by rw [hme.out, h3, h5]; rfl, hI⟩
                · go_wp2_with (first | ((with_reducible refine wpList_on  (by with_unfolding_all rfl) ?_)))
                  go_meet
                  case rel => exact ⟨by rw [hme.out, h3, h5, h6]; rfl, hI⟩
                · go_wp2_with (first | ((with_reducible refine wpList_on  (by with_unfolding_all rfl) ?_)))
                  go_meet
                  case rel => exact ⟨by rw [hme.out, h3, h5, h6]; rfl, hI⟩
              case rest =>
                clear hI
                obtain ⟨rfl, hI⟩ := hcut
                clear hme
                generalize many V' = mk at *
                have hbb : (mk != mk) = false := by simp
                go_wp2_with (first | ((with_reducible refine wpList_load_iw hI (by with_unfolding_all rfl) (by first | with_reducible exact mm0 | with_reducible exact mm1 | with_reducible exact mm2 | with_reducible exact mm3 | with_reducible exact mm4 | with_reducible exact mm5 | with_reducible exact mm6 | with_reducible exact mm7 | with_reducible exact mm8 | with_reducible exact mm9) (by first | with_reducible exact agg53 | with_reducible exact agg51 | with_reducible exact agg27 | with_reducible exact agg25 | with_reducible exact agg57) (by (repeat (first | rw [List.length_set] | rw [nau_len] | rw [sub_len] | rw [spl_len])) <;> omega) ?_)) | (go_at_call 31; (with_reducible refine (vowed_st _ p 92 V K P o hw3 hh2 (hI.mbk (by (first | with_reducible exact mm0 | with_reducible exact mm1 | with_reducible exact mm2 | with_reducible exact mm3 | with_reducible exact mm4 | with_reducible exact mm5 | with_reducible exact mm6 | with_reducible exact mm7 | with_reducible exact mm8 | with_reducible exact mm9))) who hd d hd2 hd3).mono ?_); rw [hvo.out, hvm.out]; rintro e w1 ⟨rfl, hst, hbk⟩; replace hI := hI.mcall (by (first | with_reducible exact uu0 | with_reducible exact uu1 | with_reducible exact uu2 | with_reducible exact uu3 | with_reducible exact uu4 | with_reducible exact uu5 | with_reducible exact uu6 | with_reducible exact uu7 | with_reducible exact uu8 | with_reducible exact uu9)) hst hbk; clear hst hbk))
                go_meet
                case rel => exact ⟨V', K, mk, w2, h2, rfl, rfl, rfl, Lib.hid ⟨lw2, lh2, hr.1, hr.2, hK0, hK7⟩, hI⟩
  case rest =>
    clear hI
    obtain ⟨V', K', P', w2, h2, rfl, rfl, rfl, hG, hI⟩ := hcut
    obtain ⟨g1, g2, g3, g4, g5, g6⟩ := hG.out
    obtain ⟨zl, _, z72, z93, _⟩ := stZ_parts V' K' g1 g2
    obtain ⟨Z, hZ⟩ : ∃ Z, stZ w2 h2 V' K' = Z := ⟨_, rfl⟩
    rw [hZ] at zl z72 z93 hI
    have hZl := zl
    have hzc := Lib.hid z93
    have hzb := Lib.hid z72
    have hpp : (P' != P') = false := by simp
    have h31 : ([3, 1] : List Int).length = 2 := rfl
    clear z72 z93 zl
    go_upto_region 39 with fail
    (try simp only [Act.put, List.setIfInBounds_toArray, List.set_cons_succ, List.set_cons_zero])
    (refine wp_region_reg (C := fun w' => Inv _ _ w' _) [] (fun w' => Inv _ _ w' _) hI.drew (fun _ h => h) mixed (by kernel_rfl) ?_; clear hI; (repeat (first | ((with_reducible refine wpReg_skip (by with_unfolding_all rfl) ?_); simp only [Act.put, List.setIfInBounds_toArray, List.set_cons_succ, List.set_cons_zero]) | ((with_reducible apply wpReg_read); rfl; rfl; (focus ((intro w hI0; have hI : Inv _ _ w _ := hI0; clear hI0); go_wp2_with (first | ((with_reducible refine wpList_load_iw hI (by with_unfolding_all rfl) (by first | with_reducible exact mm0 | with_reducible exact mm1 | with_reducible exact mm2 | with_reducible exact mm3 | with_reducible exact mm4 | with_reducible exact mm5 | with_reducible exact mm6 | with_reducible exact mm7 | with_reducible exact mm8 | with_reducible exact mm9) (by first | with_reducible exact agg53 | with_reducible exact agg51 | with_reducible exact agg27 | with_reducible exact agg25 | with_reducible exact agg57) (by (repeat (first | rw [List.length_set] | rw [nau_len] | rw [sub_len] | rw [spl_len])) <;> omega) ?_)) | (go_at_call 34; (with_reducible refine (change_any _ p 92 Z P' hZl (hI.mbk (by (first | with_reducible exact mm0 | with_reducible exact mm1 | with_reducible exact mm2 | with_reducible exact mm3 | with_reducible exact mm4 | with_reducible exact mm5 | with_reducible exact mm6 | with_reducible exact mm7 | with_reducible exact mm8 | with_reducible exact mm9)))).mono ?_); rw [hzc.out]; rintro e w1 ⟨rfl, hst, hbk⟩; replace hI := hI.mcall (by (first | with_reducible exact uu0 | with_reducible exact uu1 | with_reducible exact uu2 | with_reducible exact uu3 | with_reducible exact uu4 | with_reducible exact uu5 | with_reducible exact uu6 | with_reducible exact uu7 | with_reducible exact uu8 | with_reducible exact uu9)) hst hbk; clear hst hbk) | (go_at_call 35; (with_reducible refine (ballot_any _ p 92 Z P' hZl (hI.mbk (by (first | with_reducible exact mm0 | with_reducible exact mm1 | with_reducible exact mm2 | with_reducible exact mm3 | with_reducible exact mm4 | with_reducible exact mm5 | with_reducible exact mm6 | with_reducible exact mm7 | with_reducible exact mm8 | with_reducible exact mm9)))).mono ?_); rw [hzb.out]; rintro e w1 ⟨rfl, hst, hbk⟩; replace hI := hI.mcall (by (first | with_reducible exact uu0 | with_reducible exact uu1 | with_reducible exact uu2 | with_reducible exact uu3 | with_reducible exact uu4 | with_reducible exact uu5 | with_reducible exact uu6 | with_reducible exact uu7 | with_reducible exact uu8 | with_reducible exact uu9)) hst hbk; clear hst hbk) | (go_at_call 33; (with_reducible refine (putting_any _ p 92 Z P' hZl (hI.mbk (by (first | with_reducible exact mm0 | with_reducible exact mm1 | with_reducible exact mm2 | with_reducible exact mm3 | with_reducible exact mm4 | with_reducible exact mm5 | with_reducible exact mm6 | with_reducible exact mm7 | with_reducible exact mm8 | with_reducible exact mm9)))).mono ?_); rintro e w1 ⟨rfl, hst, hbk⟩; replace hI := hI.mcall (by (first | with_reducible exact uu0 | with_reducible exact uu1 | with_reducible exact uu2 | with_reducible exact uu3 | with_reducible exact uu4 | with_reducible exact uu5 | with_reducible exact uu6 | with_reducible exact uu7 | with_reducible exact uu8 | with_reducible exact uu9)) hst hbk; clear hst hbk)); (try simp only [Act.put, List.setIfInBounds_toArray, List.set_cons_succ, List.set_cons_zero]); exact ⟨rfl, rfl, hI⟩)); (first | exact ⟨_, rfl⟩ | exact ⟨undef, rfl⟩)) | ((with_reducible apply wpReg_pure); rfl; rfl; (focus (intro D w hD hE; have hI : Inv _ _ w _ := hE; (try simp only [List.eraseIdx_cons_succ, List.eraseIdx_cons_zero] at hI); go_wp2_with (first | ((with_reducible refine wpList_ne_same  (by with_unfolding_all rfl) (by with_unfolding_all rfl) (by first | with_reducible exact agg53 | with_reducible exact agg51 | with_reducible exact agg27 | with_reducible exact agg25 | with_reducible exact agg57) (by first | with_reducible exact flatT53 | with_reducible exact flatT51 | with_reducible exact flatT27 | with_reducible exact flatT25) (by (repeat (first | rw [List.length_set] | rw [nau_len] | rw [sub_len] | rw [spl_len])) <;> omega) ?_)) | ((with_reducible refine wpList_load_iw hI (by with_unfolding_all rfl) (by first | with_reducible exact mm0 | with_reducible exact mm1 | with_reducible exact mm2 | with_reducible exact mm3 | with_reducible exact mm4 | with_reducible exact mm5 | with_reducible exact mm6 | with_reducible exact mm7 | with_reducible exact mm8 | with_reducible exact mm9) (by first | with_reducible exact agg53 | with_reducible exact agg51 | with_reducible exact agg27 | with_reducible exact agg25 | with_reducible exact agg57) (by (repeat (first | rw [List.length_set] | rw [nau_len] | rw [sub_len] | rw [spl_len])) <;> omega) ?_))); (try simp only [Act.put, List.setIfInBounds_toArray, List.set_cons_succ, List.set_cons_zero]); exact ⟨rfl, rfl, hD⟩)); (first | exact ⟨_, rfl⟩ | exact ⟨undef, rfl⟩)))); ((with_reducible refine wpReg_nil ?_); intro w hI0; have hI : Inv _ _ w _ := hI0; clear hI0))
    go_wp2_with fail
    exact hQ V' K' P' w2 h2 _ _ _ _ _ _ _ _ _ _ _ _ _ _ _ _ _ _ _ _ _ _ _ _ _ _ _ _ _ _ _ _ _ _ _ _ _ _ _ _ _ _ _ _ _ _ _ _ _ _ _ _ _ _ _ _ _ _ _ _ _ _ _ _ _ _ _ _ _ _ _ _ _ _ _ _ _ _ _ _ _ _ _ _ _ _ _ _ _ _ _ _ _ _ _ _ _ _ _ _ _ _ _ _ _ _ _ _ _ _ _ _ _ _ _ _ hG (by rw [hZ]; exact hI)
end Go.Proofs.Ytaeapoidigglnaa
