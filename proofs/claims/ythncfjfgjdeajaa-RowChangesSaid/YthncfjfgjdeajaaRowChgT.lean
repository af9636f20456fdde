/-
  The law RowChanges: the tail of its walk, behind the first switch. No condition.
-/
import Derived.Test.YthncfjfgjdeajaaRowGive
import Derived.Test.YthncfjfgjdeajaaTypes2
import Derived.Deep.CutBlock
namespace Go.Proofs.Ythncfjfgjdeajaa
open Go.RowKit
/-- what the three calls give -/
def chgF (k : Int) (x : List Int) (key n tt : Int) : List Int × Int :=
  if k = 0 then putF x (1 + key.toNat * 7) key n else if k = 1 then putF x (1 + key.toNat * 7 + 1) key n else giveF x key n tt
theorem chg_len (k : Int) (x : List Int) (key n tt : Int) (hx : x.length = 174) : (chgF k x key n tt).1.length = 174 := by
  unfold chgF; split
  · exact putF_len _ _ _ _ hx
  · split
    · exact putF_len _ _ _ _ hx
    · exact giveF_len _ _ _ _ hx
theorem chg_right (k : Int) (x : List Int) (key n tt : Int) (hx : x.length = 174) (hr : rowB x = true) (h : (chgF k x key n tt).2 = 0) : rowB (chgF k x key n tt).1 = true := by
  have hput : ∀ f, f < 2 → (putF x (1 + key.toNat * 7 + f) key n).2 = 0 → rowB (putF x (1 + key.toNat * 7 + f) key n).1 = true := by
    intro f hf h
    unfold putF at h ⊢
    by_cases ha : askedB key n = true
    · rw [if_pos ha] at h ⊢
      obtain ⟨a, b, c, _⟩ := asked_of ha
      by_cases hg : 1099511627776 - n < gi x (1 + key.toNat * 7 + f)
      · rw [if_pos hg] at h; cases h
      · rw [if_neg hg]
        exact more_right x key.toNat f n hx hr (by omega) (by omega) c (by unfold cntF; rw [if_pos hf]; omega)
    · rw [if_neg ha] at h; cases h
  unfold chgF at h ⊢
  split at h
  · rename_i hk
    rw [if_pos hk]; exact hput 0 (by omega) h
  · rename_i hk
    rw [if_neg hk]
    split at h
    · rename_i hk1
      rw [if_pos hk1]; exact hput 1 (by omega) h
    · rename_i hk1
      rw [if_neg hk1]
      unfold giveF at h ⊢
      by_cases ha : machB tt = true ∧ askedB key n = true
      · rw [if_pos ha] at h ⊢
        obtain ⟨a, b, c, _⟩ := asked_of ha.2
        obtain ⟨t0, t5⟩ := mach_of ha.1
        by_cases hg : 1099511627776 - n < (sub x (1 + key.toNat * 7 + 2) 5).sum
        · rw [if_pos hg] at h; cases h
        · rw [if_neg hg]
          have := more_right x key.toNat (2 + tt.toNat) n hx hr (by omega) (by omega) c (by unfold cntF; rw [if_neg (by omega)]; omega)
          rwa [← Nat.add_assoc] at this
      · rw [if_neg ha] at h; cases h
theorem insB_eq (key n : Int) : (decide (0 ≤ key ∧ key < 4) && decide (1 ≤ n ∧ n ≤ 1099511627776)) = askedB key n := by
  unfold askedB
  rw [Bool.eq_iff_iff]
  simp [and_assoc]
theorem gi_same (x : List Int) (i : Nat) (v : Int) (h : i < x.length) : gi (x.set i v) i = v := by rw [gi_set, if_pos ⟨rfl, h⟩]
/-- what follows a statement -/
def nx : Code → Code
  | .seq _ c => c
  | c => c
set_option maxRecDepth 100000 in
set_option maxHeartbeats 6400000 in
theorem chg_tail {Q : Exit → Act → World → Prop} {w0 w : World} {x how want : List Int} {n key tt k e tot : Int} {b3 b9 : Nat} {s4 s5 s12 s13 s15 s16 s17 s18 s19 s20 s21 s22 s23 s24 s25 s26 s27 s28 s29 s30 s31 s32 s33 s34 s35 s36 s37 s38 s39 s40 s41 s42 s43 s44 s45 s46 s47 s48 s49 s50 s51 s52 s53 s54 s55 s56 s57 s58 s59 s60 s61 s62 s63 s64 s65 s66 s67 s68 s69 s70 s71 s72 s73 s74 s75 s76 s77 s78 s79 s80 s81 s82 s83 s84 s85 s86 s87 s88 s89 s90 s91 s92 s93 s94 s95 s96 s97 s98 s99 s100 s101 s102 s103 s104 s105 s106 s107 s108 s109 s110 s111 s112 s113 s114 s115 s116 s117 s118 s119 s120 s121 s122 s123 s124 s125 s126 s127 s128 s129 s130 s131 s132 s133 s134 s135 s136 s137 s138 s139 s140 s141 s142 s143 s144 s145 s146 s147 s148 s149 s150 s151 s152 s153 s154 s155 s156 s157 s158 s159 s160 s161 s162 s163 s164 s165 s166 s167 s168 s169 s170 s171 s172 s173 s174 s175 s176 s177 s178 s179 s180 s181 s182 : Value}
    (hQ : ∀ (act : Act) (w : World), act.defers = [] → act.tmps.getD 6 undef = .bool true → Below w0.heap.size w0 w → Q .ret act w)
    (hx : x.length = 174) (hr : rowB x = true) (hw : Hid (Wf x)) (hv0 : 0 ≤ gi x 0) (hv2 : gi x 0 ≤ 1152921504606846976) (hv1 : gi x 0 < 9223372036854775807) (hk : k = 0 ∨ k = 1 ∨ k = 2)
    (wl : want.length = 174) (w00 : gi want 0 = gi x 0) (hc : Hid ((e = 5 ∧ chgF k x key n tt = (nau 174, 5)) ∨ (e = 0 ∧ chgF k x key n tt = if 1099511627776 < tot then (nau 174, 6) else (want.set 0 (gi x 0 + 1), 0))))
    (hI : Inv [] w0 w [ib b9 28 want, ib b3 28 x]) :
    Code.wp Try.prog (nx (nx (nx (nx (nx (nx (nx (nx (nx (nx (nx (nx (Try.f8.body.getD .skip))))))))))))) Q { tmps := #[ia x, ia how, .int .i64 n, .pointer (some ⟨b3, 0, none⟩), s4, s5, .bool false, .int .i64 key, .int .i64 tt, .pointer (some ⟨b9, 0, none⟩), .int .i64 e, .int .i64 k, s12, s13, .int .i64 tot, s15, s16, s17, s18, s19, s20, s21, s22, s23, s24, s25, s26, s27, s28, s29, s30, s31, s32, s33, s34, s35, s36, s37, s38, s39, s40, s41, s42, s43, s44, s45, s46, s47, s48, s49, s50, s51, s52, s53, s54, s55, s56, s57, s58, s59, s60, s61, s62, s63, s64, s65, s66, s67, s68, s69, s70, s71, s72, s73, s74, s75, s76, s77, s78, s79, s80, s81, s82, s83, s84, s85, s86, s87, s88, s89, s90, s91, s92, s93, s94, s95, s96, s97, s98, s99, s100, s101, s102, s103, s104, s105, s106, s107, s108, s109, s110, s111, s112, s113, s114, s115, s116, s117, s118, s119, s120, s121, s122, s123, s124, s125, s126, s127, s128, s129, s130, s131, s132, s133, s134, s135, s136, s137, s138, s139, s140, s141, s142, s143, s144, s145, s146, s147, s148, s149, s150, s151, s152, s153, s154, s155, s156, s157, s158, s159, s160, s161, s162, s163, s164, s165, s166, s167, s168, s169, s170, s171, s172, s173, s174, s175, s176, s177, s178, s179, s180, s181, s182], defers := [] } w := by
  have hn := nau_len 174
  dsimp only [nx, Try.f8, Option.getD]
  go_upto_region 29 with fail
  go_cut [132] from 19 (fun u wx => ∃ c : Bool, u = .bool c ∧ Hid (c = (decide (e = 0) && decide (1099511627776 < tot))) ∧ Inv [] w0 wx [ib b9 28 want, ib b3 28 x])
  case first =>
    rcases hc.out with ⟨rfl, _⟩ | ⟨rfl, _⟩
    · clear hc hw
      go_wp2_with fail
      go_meet
      case rel => exact ⟨_, rfl, Lib.hid rfl, hI⟩
    · clear hc hw
      go_wp2_with fail
      go_meet
      case rel => exact ⟨_, rfl, Lib.hid (by simp), hI⟩
  case rest =>
  clear hI
  obtain ⟨c, rfl, hcc, hI⟩ := hcut
  go_upto_if 132 with fail
  go_cut [10] from 19 (fun u wx => ∃ (e : Int) (want : List Int), u = .int .i64 e ∧ want.length = 174 ∧ gi want 0 = gi x 0 ∧ Hid (((e = 5 ∨ e = 6) ∧ chgF k x key n tt = (nau 174, e)) ∨ (e = 0 ∧ chgF k x key n tt = (want.set 0 (gi x 0 + 1), 0))) ∧ Inv [] w0 wx [ib b9 28 want, ib b3 28 x])
  case first =>
    rcases hc.out with ⟨rfl, h⟩ | ⟨rfl, h⟩
    · replace h := Lib.hid h
      have hcf : c = false := by rw [hcc.out]; rfl
      subst hcf
      clear hc hw hcc
      go_wp2_with fail
      go_meet
      case rel => exact ⟨_, _, rfl, wl, w00, Lib.hid (.inl ⟨.inl rfl, h.out⟩), hI⟩
    · by_cases hgt : 1099511627776 < tot
      · rw [if_pos hgt] at h
        replace h := Lib.hid h
        have hcf : c = true := by rw [hcc.out]; simpa using hgt
        subst hcf
        clear hc hw hcc
        go_wp2_with fail
        go_meet
        case rel => exact ⟨_, _, rfl, wl, w00, Lib.hid (.inl ⟨.inr rfl, h.out⟩), hI⟩
      · rw [if_neg hgt] at h
        replace h := Lib.hid h
        have hcf : c = false := by rw [hcc.out]; simpa using hgt
        subst hcf
        clear hc hw hcc
        go_wp2_with fail
        go_meet
        case rel => exact ⟨_, _, rfl, wl, w00, Lib.hid (.inr ⟨rfl, h.out⟩), hI⟩
  case rest =>
    clear hI hc hcc wl w00 want e
    obtain ⟨e, want, rfl, wl, w00, hc, hI⟩ := hcut
    have he : Hid (e = (chgF k x key n tt).2) := Lib.hid (by rcases hc.out with ⟨_, h⟩ | ⟨h0, h⟩ <;> rw [h]; exact h0)
    have hg00 : ∀ u, gi (want.set 0 u) 0 = u := fun u => by rw [gi_set, if_pos ⟨rfl, by omega⟩]
    have hcl := chg_len k x key n tt hx
    have hcr := chg_right k x key n tt hx hr
    go_upto_if 138 with (first | ((with_reducible refine wpList_on  (by with_unfolding_all rfl) ?_)) | ((with_reducible refine wpList_load_iw hI (by with_unfolding_all rfl) (by first | with_reducible exact mm0 | with_reducible exact mm1 | with_reducible exact mm2 | with_reducible exact mm3 | with_reducible exact mm4 | with_reducible exact mm5 | with_reducible exact mm6 | with_reducible exact mm7 | with_reducible exact mm8 | with_reducible exact mm9) (by first | with_reducible exact agg22 | with_reducible exact agg24 | with_reducible exact agg25 | with_reducible exact agg26 | with_reducible exact agg28) (by (repeat (first | rw [List.length_set] | rw [nau_len] | rw [sub_len] | rw [spl_len])) <;> omega) ?_)) | ((with_reducible refine wpList_load_ia hI (by with_unfolding_all rfl) (by first | with_reducible exact mm0 | with_reducible exact mm1 | with_reducible exact mm2 | with_reducible exact mm3 | with_reducible exact mm4 | with_reducible exact mm5 | with_reducible exact mm6 | with_reducible exact mm7 | with_reducible exact mm8 | with_reducible exact mm9) (by first | with_reducible exact agg22 | with_reducible exact agg24 | with_reducible exact agg25 | with_reducible exact agg26 | with_reducible exact agg28) (by (repeat (first | rw [List.length_set] | rw [nau_len] | rw [sub_len] | rw [spl_len])) <;> omega) ?_)) | ((with_reducible refine wpList_load_i1 hI (by with_unfolding_all rfl) (by first | with_reducible exact mm0 | with_reducible exact mm1 | with_reducible exact mm2 | with_reducible exact mm3 | with_reducible exact mm4 | with_reducible exact mm5 | with_reducible exact mm6 | with_reducible exact mm7 | with_reducible exact mm8 | with_reducible exact mm9) (by first | with_reducible exact one3 | with_reducible exact one4 | with_reducible exact one31) (by (repeat (first | rw [List.length_set] | rw [nau_len] | rw [sub_len] | rw [spl_len])) <;> omega) ?_)) | ((with_reducible refine wpList_eq_ia  (by with_unfolding_all rfl) (by with_unfolding_all rfl) (by first | with_reducible exact agg22 | with_reducible exact agg24 | with_reducible exact agg25 | with_reducible exact agg26 | with_reducible exact agg28) (by first | with_reducible exact flatT22 | with_reducible exact flatT24 | with_reducible exact flatT25 | with_reducible exact flatT26 | with_reducible exact flatT28) (by (repeat (first | rw [List.length_set] | rw [nau_len] | rw [sub_len] | rw [spl_len])) <;> omega) (by (repeat (first | rw [List.length_set] | rw [nau_len] | rw [sub_len] | rw [spl_len])) <;> omega) ?_)) | ((with_reducible refine wpList_ne_ia  (by with_unfolding_all rfl) (by with_unfolding_all rfl) (by first | with_reducible exact agg22 | with_reducible exact agg24 | with_reducible exact agg25 | with_reducible exact agg26 | with_reducible exact agg28) (by first | with_reducible exact flatT22 | with_reducible exact flatT24 | with_reducible exact flatT25 | with_reducible exact flatT26 | with_reducible exact flatT28) (by (repeat (first | rw [List.length_set] | rw [nau_len] | rw [sub_len] | rw [spl_len])) <;> omega) (by (repeat (first | rw [List.length_set] | rw [nau_len] | rw [sub_len] | rw [spl_len])) <;> omega) ?_)) | fail | ((with_reducible refine wpList_store_iw hI (by with_unfolding_all rfl) (by with_unfolding_all rfl) (by first | with_reducible exact uu0 | with_reducible exact uu1 | with_reducible exact uu2 | with_reducible exact uu3 | with_reducible exact uu4 | with_reducible exact uu5 | with_reducible exact uu6 | with_reducible exact uu7 | with_reducible exact uu8 | with_reducible exact uu9) (by first | with_reducible exact agg22 | with_reducible exact agg24 | with_reducible exact agg25 | with_reducible exact agg26 | with_reducible exact agg28) (by (repeat (first | rw [List.length_set] | rw [nau_len] | rw [sub_len] | rw [spl_len])) <;> omega) (by (repeat (first | rw [List.length_set] | rw [nau_len] | rw [sub_len] | rw [spl_len])) <;> omega) ?_); clear hI; intro w hI) | ((with_reducible refine wpList_store_ia hI (by with_unfolding_all rfl) (by with_unfolding_all rfl) (by first | with_reducible exact uu0 | with_reducible exact uu1 | with_reducible exact uu2 | with_reducible exact uu3 | with_reducible exact uu4 | with_reducible exact uu5 | with_reducible exact uu6 | with_reducible exact uu7 | with_reducible exact uu8 | with_reducible exact uu9) (by first | with_reducible exact agg22 | with_reducible exact agg24 | with_reducible exact agg25 | with_reducible exact agg26 | with_reducible exact agg28) (by (repeat (first | rw [List.length_set] | rw [nau_len] | rw [sub_len] | rw [spl_len])) <;> omega) (by (repeat (first | rw [List.length_set] | rw [nau_len] | rw [sub_len] | rw [spl_len])) <;> omega) ?_); clear hI; intro w hI) | ((with_reducible refine wpList_store_i1 hI (by with_unfolding_all rfl) (by with_unfolding_all rfl) (by first | with_reducible exact uu0 | with_reducible exact uu1 | with_reducible exact uu2 | with_reducible exact uu3 | with_reducible exact uu4 | with_reducible exact uu5 | with_reducible exact uu6 | with_reducible exact uu7 | with_reducible exact uu8 | with_reducible exact uu9) (by first | with_reducible exact one3 | with_reducible exact one4 | with_reducible exact one31) (by (repeat (first | rw [List.length_set] | rw [nau_len] | rw [sub_len] | rw [spl_len])) <;> omega) ?_); clear hI; intro w hI) | fail)
    (try simp only [Act.put, List.setIfInBounds_toArray, List.set_cons_succ, List.set_cons_zero])
    go_cut [] from 19 (fun wx => Inv [] w0 wx [ib b9 28 (chgF k x key n tt).1, ib b3 28 x])
    case first =>
      rcases hc.out with ⟨he1, h⟩ | ⟨rfl, h⟩
      · replace h := Lib.hid h
        clear hc hw hcr he
        have he2 : (e != 0) = true := by rcases he1 with rfl | rfl <;> rfl
        go_wp2_with (first | ((with_reducible refine wpList_build0_ia  (by first | with_reducible exact zi22 | with_reducible exact zi24 | with_reducible exact zi25 | with_reducible exact zi26 | with_reducible exact zi28) (by first | with_reducible exact kn22 | with_reducible exact kn24 | with_reducible exact kn25 | with_reducible exact kn26 | with_reducible exact kn28) ?_)) | ((with_reducible refine wpList_store_iw hI (by with_unfolding_all rfl) (by with_unfolding_all rfl) (by first | with_reducible exact uu0 | with_reducible exact uu1 | with_reducible exact uu2 | with_reducible exact uu3 | with_reducible exact uu4 | with_reducible exact uu5 | with_reducible exact uu6 | with_reducible exact uu7 | with_reducible exact uu8 | with_reducible exact uu9) (by first | with_reducible exact agg22 | with_reducible exact agg24 | with_reducible exact agg25 | with_reducible exact agg26 | with_reducible exact agg28) (by (repeat (first | rw [List.length_set] | rw [nau_len] | rw [sub_len] | rw [spl_len])) <;> omega) (by (repeat (first | rw [List.length_set] | rw [nau_len] | rw [sub_len] | rw [spl_len])) <;> omega) ?_); clear hI; intro w hI))
        go_meet
        case rel => rw [h.out]; exact hI
      · replace h := Lib.hid h
        clear hc hw hcr he
        go_wp2_with fail
        go_meet
        case rel => rw [h.out]; exact hI
    case rest =>
      clear hI hc hg00 wl w00
      have hI := hcut
      clear hcut
      go_upto_block 3 with (first | ((with_reducible refine wpList_alloc_ia hI (by first | with_reducible exact zi22 | with_reducible exact zi24 | with_reducible exact zi25 | with_reducible exact zi26 | with_reducible exact zi28) ?_); clear hI; intro bx w hI))
      (try simp only [Act.put, List.setIfInBounds_toArray, List.set_cons_succ, List.set_cons_zero])
      (obtain ⟨b17, hbx⟩ : ∃ b, b = bx := ⟨_, rfl⟩; subst hbx)
      go_cut [18] from 19 (fun u wx => u = .int .i64 (chgF k x key n tt).2 ∧ Inv [] w0 wx [ib b17 28 (chgF k x key n tt).1, ib b9 28 (chgF k x key n tt).1, ib b3 28 x])
      case first =>
        rcases hk with rfl | rfl | rfl
        · have hq : Hid (putF x (1 + key.toNat * 7) key n = chgF 0 x key n tt) := Lib.hid rfl
          clear hcr he
          generalize hgen : chgF 0 x key n tt = r at *
          clear hgen
          go_wp2_with (first | ((with_reducible refine wpList_on  (by with_unfolding_all rfl) ?_)) | ((with_reducible refine wpList_load_iw hI (by with_unfolding_all rfl) (by first | with_reducible exact mm0 | with_reducible exact mm1 | with_reducible exact mm2 | with_reducible exact mm3 | with_reducible exact mm4 | with_reducible exact mm5 | with_reducible exact mm6 | with_reducible exact mm7 | with_reducible exact mm8 | with_reducible exact mm9) (by first | with_reducible exact agg22 | with_reducible exact agg24 | with_reducible exact agg25 | with_reducible exact agg26 | with_reducible exact agg28) (by (repeat (first | rw [List.length_set] | rw [nau_len] | rw [sub_len] | rw [spl_len])) <;> omega) ?_)) | ((with_reducible refine wpList_load_ia hI (by with_unfolding_all rfl) (by first | with_reducible exact mm0 | with_reducible exact mm1 | with_reducible exact mm2 | with_reducible exact mm3 | with_reducible exact mm4 | with_reducible exact mm5 | with_reducible exact mm6 | with_reducible exact mm7 | with_reducible exact mm8 | with_reducible exact mm9) (by first | with_reducible exact agg22 | with_reducible exact agg24 | with_reducible exact agg25 | with_reducible exact agg26 | with_reducible exact agg28) (by (repeat (first | rw [List.length_set] | rw [nau_len] | rw [sub_len] | rw [spl_len])) <;> omega) ?_)) | ((with_reducible refine wpList_load_i1 hI (by with_unfolding_all rfl) (by first | with_reducible exact mm0 | with_reducible exact mm1 | with_reducible exact mm2 | with_reducible exact mm3 | with_reducible exact mm4 | with_reducible exact mm5 | with_reducible exact mm6 | with_reducible exact mm7 | with_reducible exact mm8 | with_reducible exact mm9) (by first | with_reducible exact one3 | with_reducible exact one4 | with_reducible exact one31) (by (repeat (first | rw [List.length_set] | rw [nau_len] | rw [sub_len] | rw [spl_len])) <;> omega) ?_)) | ((with_reducible refine wpList_eq_ia  (by with_unfolding_all rfl) (by with_unfolding_all rfl) (by first | with_reducible exact agg22 | with_reducible exact agg24 | with_reducible exact agg25 | with_reducible exact agg26 | with_reducible exact agg28) (by first | with_reducible exact flatT22 | with_reducible exact flatT24 | with_reducible exact flatT25 | with_reducible exact flatT26 | with_reducible exact flatT28) (by (repeat (first | rw [List.length_set] | rw [nau_len] | rw [sub_len] | rw [spl_len])) <;> omega) (by (repeat (first | rw [List.length_set] | rw [nau_len] | rw [sub_len] | rw [spl_len])) <;> omega) ?_)) | ((with_reducible refine wpList_ne_ia  (by with_unfolding_all rfl) (by with_unfolding_all rfl) (by first | with_reducible exact agg22 | with_reducible exact agg24 | with_reducible exact agg25 | with_reducible exact agg26 | with_reducible exact agg28) (by first | with_reducible exact flatT22 | with_reducible exact flatT24 | with_reducible exact flatT25 | with_reducible exact flatT26 | with_reducible exact flatT28) (by (repeat (first | rw [List.length_set] | rw [nau_len] | rw [sub_len] | rw [spl_len])) <;> omega) (by (repeat (first | rw [List.length_set] | rw [nau_len] | rw [sub_len] | rw [spl_len])) <;> omega) ?_)) | fail | ((with_reducible refine wpList_store_iw hI (by with_unfolding_all rfl) (by with_unfolding_all rfl) (by first | with_reducible exact uu0 | with_reducible exact uu1 | with_reducible exact uu2 | with_reducible exact uu3 | with_reducible exact uu4 | with_reducible exact uu5 | with_reducible exact uu6 | with_reducible exact uu7 | with_reducible exact uu8 | with_reducible exact uu9) (by first | with_reducible exact agg22 | with_reducible exact agg24 | with_reducible exact agg25 | with_reducible exact agg26 | with_reducible exact agg28) (by (repeat (first | rw [List.length_set] | rw [nau_len] | rw [sub_len] | rw [spl_len])) <;> omega) (by (repeat (first | rw [List.length_set] | rw [nau_len] | rw [sub_len] | rw [spl_len])) <;> omega) ?_); clear hI; intro w hI) | (go_at_call 18; refine (inc_any _ x key n hx hw.out hv1).mono ?_; rw [hq.out]; rintro e w1 ⟨rfl, hw1⟩; replace hI := hI.call hw1; clear hw1))
          go_meet
          case rel => exact ⟨rfl, hI⟩
        · have hq : Hid (putF x (1 + key.toNat * 7 + 1) key n = chgF 1 x key n tt) := Lib.hid rfl
          clear hcr he
          generalize hgen : chgF 1 x key n tt = r at *
          clear hgen
          go_wp2_with (first | ((with_reducible refine wpList_on  (by with_unfolding_all rfl) ?_)) | ((with_reducible refine wpList_load_iw hI (by with_unfolding_all rfl) (by first | with_reducible exact mm0 | with_reducible exact mm1 | with_reducible exact mm2 | with_reducible exact mm3 | with_reducible exact mm4 | with_reducible exact mm5 | with_reducible exact mm6 | with_reducible exact mm7 | with_reducible exact mm8 | with_reducible exact mm9) (by first | with_reducible exact agg22 | with_reducible exact agg24 | with_reducible exact agg25 | with_reducible exact agg26 | with_reducible exact agg28) (by (repeat (first | rw [List.length_set] | rw [nau_len] | rw [sub_len] | rw [spl_len])) <;> omega) ?_)) | ((with_reducible refine wpList_load_ia hI (by with_unfolding_all rfl) (by first | with_reducible exact mm0 | with_reducible exact mm1 | with_reducible exact mm2 | with_reducible exact mm3 | with_reducible exact mm4 | with_reducible exact mm5 | with_reducible exact mm6 | with_reducible exact mm7 | with_reducible exact mm8 | with_reducible exact mm9) (by first | with_reducible exact agg22 | with_reducible exact agg24 | with_reducible exact agg25 | with_reducible exact agg26 | with_reducible exact agg28) (by (repeat (first | rw [List.length_set] | rw [nau_len] | rw [sub_len] | rw [spl_len])) <;> omega) ?_)) | ((with_reducible refine wpList_load_i1 hI (by with_unfolding_all rfl) (by first | with_reducible exact mm0 | with_reducible exact mm1 | with_reducible exact mm2 | with_reducible exact mm3 | with_reducible exact mm4 | with_reducible exact mm5 | with_reducible exact mm6 | with_reducible exact mm7 | with_reducible exact mm8 | with_reducible exact mm9) (by first | with_reducible exact one3 | with_reducible exact one4 | with_reducible exact one31) (by (repeat (first | rw [List.length_set] | rw [nau_len] | rw [sub_len] | rw [spl_len])) <;> omega) ?_)) | ((with_reducible refine wpList_eq_ia  (by with_unfolding_all rfl) (by with_unfolding_all rfl) (by first | with_reducible exact agg22 | with_reducible exact agg24 | with_reducible exact agg25 | with_reducible exact agg26 | with_reducible exact agg28) (by first | with_reducible exact flatT22 | with_reducible exact flatT24 | with_reducible exact flatT25 | with_reducible exact flatT26 | with_reducible exact flatT28) (by (repeat (first | rw [List.length_set] | rw [nau_len] | rw [sub_len] | rw [spl_len])) <;> omega) (by (repeat (first | rw [List.length_set] | rw [nau_len] | rw [sub_len] | rw [spl_len])) <;> omega) ?_)) | ((with_reducible refine wpList_ne_ia  (by with_unfolding_all rfl) (by with_unfolding_all rfl) (by first | with_reducible exact agg22 | with_reducible exact agg24 | with_reducible exact agg25 | with_reducible exact agg26 | with_reducible exact agg28) (by first | with_reducible exact flatT22 | with_reducible exact flatT24 | with_reducible exact flatT25 | with_reducible exact flatT26 | with_reducible exact flatT28) (by (repeat (first | rw [List.length_set] | rw [nau_len] | rw [sub_len] | rw [spl_len])) <;> omega) (by (repeat (first | rw [List.length_set] | rw [nau_len] | rw [sub_len] | rw [spl_len])) <;> omega) ?_)) | fail | ((with_reducible refine wpList_store_iw hI (by with_unfolding_all rfl) (by with_unfolding_all rfl) (by first | with_reducible exact uu0 | with_reducible exact uu1 | with_reducible exact uu2 | with_reducible exact uu3 | with_reducible exact uu4 | with_reducible exact uu5 | with_reducible exact uu6 | with_reducible exact uu7 | with_reducible exact uu8 | with_reducible exact uu9) (by first | with_reducible exact agg22 | with_reducible exact agg24 | with_reducible exact agg25 | with_reducible exact agg26 | with_reducible exact agg28) (by (repeat (first | rw [List.length_set] | rw [nau_len] | rw [sub_len] | rw [spl_len])) <;> omega) (by (repeat (first | rw [List.length_set] | rw [nau_len] | rw [sub_len] | rw [spl_len])) <;> omega) ?_); clear hI; intro w hI) | (go_at_call 19; refine (dec_any _ x key n hx hw.out hv1).mono ?_; rw [hq.out]; rintro e w1 ⟨rfl, hw1⟩; replace hI := hI.call hw1; clear hw1))
          go_meet
          case rel => exact ⟨rfl, hI⟩
        · have hq : Hid (giveF x key n tt = chgF 2 x key n tt) := Lib.hid rfl
          clear hcr he
          generalize hgen : chgF 2 x key n tt = r at *
          clear hgen
          go_wp2_with (first | ((with_reducible refine wpList_on  (by with_unfolding_all rfl) ?_)) | ((with_reducible refine wpList_load_iw hI (by with_unfolding_all rfl) (by first | with_reducible exact mm0 | with_reducible exact mm1 | with_reducible exact mm2 | with_reducible exact mm3 | with_reducible exact mm4 | with_reducible exact mm5 | with_reducible exact mm6 | with_reducible exact mm7 | with_reducible exact mm8 | with_reducible exact mm9) (by first | with_reducible exact agg22 | with_reducible exact agg24 | with_reducible exact agg25 | with_reducible exact agg26 | with_reducible exact agg28) (by (repeat (first | rw [List.length_set] | rw [nau_len] | rw [sub_len] | rw [spl_len])) <;> omega) ?_)) | ((with_reducible refine wpList_load_ia hI (by with_unfolding_all rfl) (by first | with_reducible exact mm0 | with_reducible exact mm1 | with_reducible exact mm2 | with_reducible exact mm3 | with_reducible exact mm4 | with_reducible exact mm5 | with_reducible exact mm6 | with_reducible exact mm7 | with_reducible exact mm8 | with_reducible exact mm9) (by first | with_reducible exact agg22 | with_reducible exact agg24 | with_reducible exact agg25 | with_reducible exact agg26 | with_reducible exact agg28) (by (repeat (first | rw [List.length_set] | rw [nau_len] | rw [sub_len] | rw [spl_len])) <;> omega) ?_)) | ((with_reducible refine wpList_load_i1 hI (by with_unfolding_all rfl) (by first | with_reducible exact mm0 | with_reducible exact mm1 | with_reducible exact mm2 | with_reducible exact mm3 | with_reducible exact mm4 | with_reducible exact mm5 | with_reducible exact mm6 | with_reducible exact mm7 | with_reducible exact mm8 | with_reducible exact mm9) (by first | with_reducible exact one3 | with_reducible exact one4 | with_reducible exact one31) (by (repeat (first | rw [List.length_set] | rw [nau_len] | rw [sub_len] | rw [spl_len])) <;> omega) ?_)) | ((with_reducible refine wpList_eq_ia  (by with_unfolding_all rfl) (by with_unfolding_all rfl) (by first | with_reducible exact agg22 | with_reducible exact agg24 | with_reducible exact agg25 | with_reducible exact agg26 | with_reducible exact agg28) (by first | with_reducible exact flatT22 | with_reducible exact flatT24 | with_reducible exact flatT25 | with_reducible exact flatT26 | with_reducible exact flatT28) (by (repeat (first | rw [List.length_set] | rw [nau_len] | rw [sub_len] | rw [spl_len])) <;> omega) (by (repeat (first | rw [List.length_set] | rw [nau_len] | rw [sub_len] | rw [spl_len])) <;> omega) ?_)) | ((with_reducible refine wpList_ne_ia  (by with_unfolding_all rfl) (by with_unfolding_all rfl) (by first | with_reducible exact agg22 | with_reducible exact agg24 | with_reducible exact agg25 | with_reducible exact agg26 | with_reducible exact agg28) (by first | with_reducible exact flatT22 | with_reducible exact flatT24 | with_reducible exact flatT25 | with_reducible exact flatT26 | with_reducible exact flatT28) (by (repeat (first | rw [List.length_set] | rw [nau_len] | rw [sub_len] | rw [spl_len])) <;> omega) (by (repeat (first | rw [List.length_set] | rw [nau_len] | rw [sub_len] | rw [spl_len])) <;> omega) ?_)) | fail | ((with_reducible refine wpList_store_iw hI (by with_unfolding_all rfl) (by with_unfolding_all rfl) (by first | with_reducible exact uu0 | with_reducible exact uu1 | with_reducible exact uu2 | with_reducible exact uu3 | with_reducible exact uu4 | with_reducible exact uu5 | with_reducible exact uu6 | with_reducible exact uu7 | with_reducible exact uu8 | with_reducible exact uu9) (by first | with_reducible exact agg22 | with_reducible exact agg24 | with_reducible exact agg25 | with_reducible exact agg26 | with_reducible exact agg28) (by (repeat (first | rw [List.length_set] | rw [nau_len] | rw [sub_len] | rw [spl_len])) <;> omega) (by (repeat (first | rw [List.length_set] | rw [nau_len] | rw [sub_len] | rw [spl_len])) <;> omega) ?_); clear hI; intro w hI) | (go_at_call 24; refine (give_any _ x key n tt hx hr hv1).mono ?_; rw [hq.out]; rintro e w1 ⟨rfl, hw1⟩; replace hI := hI.call hw1; clear hw1))
          go_meet
          case rel => exact ⟨rfl, hI⟩
      case rest =>
        clear hI hw hr
        obtain ⟨rfl, hI⟩ := hcut
        rw [he.out]
        clear he
        generalize chgF k x key n tt = r at *
        by_cases hz : r.2 = 0
        · have hr := hcr hz
          have e1 : (r.2 != 0) = false := by simp [hz]
          have e2 : (r.2 == r.2) = true := by simp
          clear hz hcr
          go_wp2_with (first | ((with_reducible refine wpList_on  (by with_unfolding_all rfl) ?_)) | ((with_reducible refine wpList_load_iw hI (by with_unfolding_all rfl) (by first | with_reducible exact mm0 | with_reducible exact mm1 | with_reducible exact mm2 | with_reducible exact mm3 | with_reducible exact mm4 | with_reducible exact mm5 | with_reducible exact mm6 | with_reducible exact mm7 | with_reducible exact mm8 | with_reducible exact mm9) (by first | with_reducible exact agg22 | with_reducible exact agg24 | with_reducible exact agg25 | with_reducible exact agg26 | with_reducible exact agg28) (by (repeat (first | rw [List.length_set] | rw [nau_len] | rw [sub_len] | rw [spl_len])) <;> omega) ?_)) | ((with_reducible refine wpList_load_ia hI (by with_unfolding_all rfl) (by first | with_reducible exact mm0 | with_reducible exact mm1 | with_reducible exact mm2 | with_reducible exact mm3 | with_reducible exact mm4 | with_reducible exact mm5 | with_reducible exact mm6 | with_reducible exact mm7 | with_reducible exact mm8 | with_reducible exact mm9) (by first | with_reducible exact agg22 | with_reducible exact agg24 | with_reducible exact agg25 | with_reducible exact agg26 | with_reducible exact agg28) (by (repeat (first | rw [List.length_set] | rw [nau_len] | rw [sub_len] | rw [spl_len])) <;> omega) ?_)) | ((with_reducible refine wpList_load_i1 hI (by with_unfolding_all rfl) (by first | with_reducible exact mm0 | with_reducible exact mm1 | with_reducible exact mm2 | with_reducible exact mm3 | with_reducible exact mm4 | with_reducible exact mm5 | with_reducible exact mm6 | with_reducible exact mm7 | with_reducible exact mm8 | with_reducible exact mm9) (by first | with_reducible exact one3 | with_reducible exact one4 | with_reducible exact one31) (by (repeat (first | rw [List.length_set] | rw [nau_len] | rw [sub_len] | rw [spl_len])) <;> omega) ?_)) | ((with_reducible refine wpList_eq_ia  (by with_unfolding_all rfl) (by with_unfolding_all rfl) (by first | with_reducible exact agg22 | with_reducible exact agg24 | with_reducible exact agg25 | with_reducible exact agg26 | with_reducible exact agg28) (by first | with_reducible exact flatT22 | with_reducible exact flatT24 | with_reducible exact flatT25 | with_reducible exact flatT26 | with_reducible exact flatT28) (by (repeat (first | rw [List.length_set] | rw [nau_len] | rw [sub_len] | rw [spl_len])) <;> omega) (by (repeat (first | rw [List.length_set] | rw [nau_len] | rw [sub_len] | rw [spl_len])) <;> omega) ?_)) | ((with_reducible refine wpList_ne_ia  (by with_unfolding_all rfl) (by with_unfolding_all rfl) (by first | with_reducible exact agg22 | with_reducible exact agg24 | with_reducible exact agg25 | with_reducible exact agg26 | with_reducible exact agg28) (by first | with_reducible exact flatT22 | with_reducible exact flatT24 | with_reducible exact flatT25 | with_reducible exact flatT26 | with_reducible exact flatT28) (by (repeat (first | rw [List.length_set] | rw [nau_len] | rw [sub_len] | rw [spl_len])) <;> omega) (by (repeat (first | rw [List.length_set] | rw [nau_len] | rw [sub_len] | rw [spl_len])) <;> omega) ?_)) | fail | (go_at_call 23; refine (rowRight_any _ _ (by assumption)).mono ?_; rintro e w1 ⟨rfl, hw1⟩; replace hI := hI.call hw1; clear hw1))
          exact hQ _ _ rfl rfl hI.below
        · have e1 : (r.2 != 0) = true := by simp [hz]
          have e2 : (r.2 == r.2) = true := by simp
          clear hz hcr
          go_wp2_with (first | ((with_reducible refine wpList_on  (by with_unfolding_all rfl) ?_)) | ((with_reducible refine wpList_load_iw hI (by with_unfolding_all rfl) (by first | with_reducible exact mm0 | with_reducible exact mm1 | with_reducible exact mm2 | with_reducible exact mm3 | with_reducible exact mm4 | with_reducible exact mm5 | with_reducible exact mm6 | with_reducible exact mm7 | with_reducible exact mm8 | with_reducible exact mm9) (by first | with_reducible exact agg22 | with_reducible exact agg24 | with_reducible exact agg25 | with_reducible exact agg26 | with_reducible exact agg28) (by (repeat (first | rw [List.length_set] | rw [nau_len] | rw [sub_len] | rw [spl_len])) <;> omega) ?_)) | ((with_reducible refine wpList_load_ia hI (by with_unfolding_all rfl) (by first | with_reducible exact mm0 | with_reducible exact mm1 | with_reducible exact mm2 | with_reducible exact mm3 | with_reducible exact mm4 | with_reducible exact mm5 | with_reducible exact mm6 | with_reducible exact mm7 | with_reducible exact mm8 | with_reducible exact mm9) (by first | with_reducible exact agg22 | with_reducible exact agg24 | with_reducible exact agg25 | with_reducible exact agg26 | with_reducible exact agg28) (by (repeat (first | rw [List.length_set] | rw [nau_len] | rw [sub_len] | rw [spl_len])) <;> omega) ?_)) | ((with_reducible refine wpList_load_i1 hI (by with_unfolding_all rfl) (by first | with_reducible exact mm0 | with_reducible exact mm1 | with_reducible exact mm2 | with_reducible exact mm3 | with_reducible exact mm4 | with_reducible exact mm5 | with_reducible exact mm6 | with_reducible exact mm7 | with_reducible exact mm8 | with_reducible exact mm9) (by first | with_reducible exact one3 | with_reducible exact one4 | with_reducible exact one31) (by (repeat (first | rw [List.length_set] | rw [nau_len] | rw [sub_len] | rw [spl_len])) <;> omega) ?_)) | ((with_reducible refine wpList_eq_ia  (by with_unfolding_all rfl) (by with_unfolding_all rfl) (by first | with_reducible exact agg22 | with_reducible exact agg24 | with_reducible exact agg25 | with_reducible exact agg26 | with_reducible exact agg28) (by first | with_reducible exact flatT22 | with_reducible exact flatT24 | with_reducible exact flatT25 | with_reducible exact flatT26 | with_reducible exact flatT28) (by (repeat (first | rw [List.length_set] | rw [nau_len] | rw [sub_len] | rw [spl_len])) <;> omega) (by (repeat (first | rw [List.length_set] | rw [nau_len] | rw [sub_len] | rw [spl_len])) <;> omega) ?_)) | ((with_reducible refine wpList_ne_ia  (by with_unfolding_all rfl) (by with_unfolding_all rfl) (by first | with_reducible exact agg22 | with_reducible exact agg24 | with_reducible exact agg25 | with_reducible exact agg26 | with_reducible exact agg28) (by first | with_reducible exact flatT22 | with_reducible exact flatT24 | with_reducible exact flatT25 | with_reducible exact flatT26 | with_reducible exact flatT28) (by (repeat (first | rw [List.length_set] | rw [nau_len] | rw [sub_len] | rw [spl_len])) <;> omega) (by (repeat (first | rw [List.length_set] | rw [nau_len] | rw [sub_len] | rw [spl_len])) <;> omega) ?_)) | fail | (go_at_call 23; refine (rowRight_any _ _ (by assumption)).mono ?_; rintro e w1 ⟨rfl, hw1⟩; replace hI := hI.call hw1; clear hw1))
          exact hQ _ _ rfl rfl hI.below
end Go.Proofs.Ythncfjfgjdeajaa
