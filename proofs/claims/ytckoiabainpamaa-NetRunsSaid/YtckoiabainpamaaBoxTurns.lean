/-
  The law BoxTurns: its walk. No condition.
-/
import Derived.Test.YtckoiabainpamaaBoxFit
import Derived.Test.YtckoiabainpamaaBoxArg
import Derived.Deep.DeepCutAuto
import Derived.Deep.LoopGhost
namespace Go.Proofs.Ytckoiabainpamaa
open Go.RowKit
set_option maxRecDepth 100000
theorem slT40 : SlT Try.prog 40 9 1 16 (.string ⟨#[]⟩) := ⟨by kernel_rfl, by kernel_rfl, by kernel_rfl, by decide⟩
theorem one22 : OneT Try.prog 22 := ⟨by kernel_rfl, by kernel_rfl⟩
def sv (bs : List UInt8) : Value := .string ⟨bs.toArray⟩
theorem put_bxn (w0 : World) (pb c cap : Nat) (qs : List (Option Addr × Nat × List UInt8)) (hs : (bxr pb c cap qs).sat w0) (hfull : cap ≤ qs.length) (a : Option Addr) (cp : Nat) (bs : List UInt8) (hr : Rd w0 a (bs.map bv)) (hl : bs.length ≤ 100000) :
    Calls Try.prog 23 #[.pointer (some ⟨pb, 0, none⟩), .slice a bs.length cp] w0 fun e w' => e = .returned (.bool false) ∧ Below w0.heap.size w0 w' := by
  obtain ⟨h1, ⟨s, r, h2⟩, h3⟩ := hs
  exact put_no w0 pb c cap s r (qs.map qv) h1 h2 (by simpa using hfull) a cp bs hr hl
theorem capF_range (n : Int) : 1 ≤ capF n ∧ capF n ≤ 64 := by
  unfold capF
  split
  · omega
  · split <;> omega
set_option maxHeartbeats 6400000 in
theorem turns_walk (w0 : World) (a : Option Addr) (len cp : Nat) (ra : Nat → Option Addr) (rc : Nat → Nat) (rb : Nat → List UInt8) (h : BArg w0 a len ra rc rb) (size : Int) :
    Calls Try.prog 9 #[.slice a len cp, .int .i64 size] w0 fun e w' => e = .returned (.bool true) ∧ Below w0.heap.size w0 w' := by
  have hI := Inv.start w0
  by_cases h0 : len = 0
  · have hb0 : ((len : Int) == 0) = true := by simp [h0]
    clear h h0
    go_enter Try.func9, Try.ntmps9
    go_wp2_with (first | ((with_reducible refine wpList_on  (by with_unfolding_all rfl) ?_)) | (go_at_call 21; refine (fit08 _).mono ?_; rintro e w1 ⟨rfl, hw1⟩; replace hI := hI.call hw1; clear hw1))
    go_ret
    exact ⟨rfl, hI.below⟩
  have hb0 : ((len : Int) == 0) = false := by simp; omega
  by_cases hbig : 40 < len
  · have hb : decide ((40 : Int) < (len : Int)) = true := by simp; omega
    clear h h0 hbig
    go_enter Try.func9, Try.ntmps9
    go_wp2_with (first | ((with_reducible refine wpList_on  (by with_unfolding_all rfl) ?_)) | (go_at_call 21; refine (fit08 _).mono ?_; rintro e w1 ⟨rfl, hw1⟩; replace hI := hI.call hw1; clear hw1))
    go_ret
    exact ⟨rfl, hI.below⟩
  have hb : decide ((40 : Int) < (len : Int)) = false := by simp; omega
  have hl40 : len ≤ 40 := by omega
  have hl1 : 1 ≤ len := by omega
  have hcap := capF_range size
  clear hbig h0
  go_enter Try.func9, Try.ntmps9
  go_upto_region 7 with (first | ((with_reducible refine wpList_on  (by with_unfolding_all rfl) ?_)) | (go_at_call 21; refine (fit08 _).mono ?_; rintro e w1 ⟨rfl, hw1⟩; replace hI := hI.call hw1; clear hw1) | (go_at_call 22; refine (new_bx _ size).mono ?_; rintro e w1 ⟨pb, c, rfl, hJ⟩; replace hI := hI.seq hJ; simp only [List.cons_append, List.nil_append] at hI; clear hJ))
  (try simp only [Act.put, List.setIfInBounds_toArray, List.set_cons_succ, List.set_cons_zero])
  clear hb hb0
  obtain ⟨cap, hce⟩ : ∃ cap, capF size = cap := ⟨_, rfl⟩
  rw [hce] at hI hcap
  replace hce := Lib.hid hce
  obtain ⟨hc1, hc64⟩ := hcap
  replace hI := hI.nilSl 9 1
  go_wp2_with fail
  go_loopg [6, 8, 27] len (fun kk s6 s8 i wr => ∃ (j : Nat) (qs : List (Option Addr × Nat × List UInt8)) (am : Option Addr) (cm : Nat), kk = len - j ∧ j ≤ len ∧ i = .int .i64 j ∧ s6 = .slice am qs.length cm ∧ Hid (qs.length = min j cap ∧ ∀ q ∈ qs, q.2.2.length ≤ 50) ∧
    Inv [] w0 wr [osl 9 1 (.slice am qs.length cm) qs.length (qs.map (fun q => sv q.2.2)), bxr pb c cap qs])
  case atStart => exact ⟨0, [], none, 0, by omega, by omega, rfl, rfl, Lib.hid ⟨by simp, by simp⟩, hI⟩
  case round =>
    clear hI
    obtain ⟨j, qs, am, cm, rfl, hj, rfl, rfl, hG, hI⟩ := hrel
    by_cases hlj : j < len
    · obtain ⟨hrj, hbr, b, off, rfl, hcell⟩ := h.row j hlj
      clear h
      generalize ra j = aj at *
      generalize rc j = cj at *
      generalize rb j = bj at *
      replace hrj : Rd w0 aj (bj.map bv) := hrj
      by_cases h50 : 50 < bj.length
      · have hb50 : decide ((50 : Int) < (bj.length : Int)) = true := by simp; omega
        clear h50
        go_wp2_with (first | ((with_reducible refine wpList_on  (by with_unfolding_all rfl) ?_)) | (with_reducible refine wpList_load_arg1 hI (by with_unfolding_all rfl) hcell (by simp) one22 ?_))
        go_ret
        exact ⟨rfl, hI.below⟩
      have hb50 : decide ((50 : Int) < (bj.length : Int)) = false := by simp; omega
      have hbl : bj.length ≤ 100000 := by omega
      by_cases hroom : qs.length < cap
      · have hG2 := fun a1 c1 => Lib.hid (p := (qs ++ [(a1, c1, bj)]).length = min (j + 1) cap ∧ ∀ q ∈ qs ++ [(a1, c1, bj)], q.2.2.length ≤ 50) ⟨by have := hG.out.1; simp; omega, fun q hq => by
          rcases List.mem_append.1 hq with hq | hq
          · exact hG.out.2 q hq
          · obtain rfl := List.mem_singleton.1 hq; simp; omega⟩
        have hq64 : qs.length < 64 := by omega
        clear h50
        go_wp2_with (first | ((with_reducible refine wpList_on  (by with_unfolding_all rfl) ?_)) | (with_reducible refine wpList_load_arg1 hI (by with_unfolding_all rfl) hcell (by simp) one22 ?_) | (go_at_call 23; refine (put_box _ pb c cap qs (hI.sat _ (by (first | with_reducible exact mm0 | with_reducible exact mm1 | with_reducible exact mm2 | with_reducible exact mm3 | with_reducible exact mm4 | with_reducible exact mm5 | with_reducible exact mm6 | with_reducible exact mm7 | with_reducible exact mm8 | with_reducible exact mm9))) (hI.nd (by (first | with_reducible exact mm0 | with_reducible exact mm1 | with_reducible exact mm2 | with_reducible exact mm3 | with_reducible exact mm4 | with_reducible exact mm5 | with_reducible exact mm6 | with_reducible exact mm7 | with_reducible exact mm8 | with_reducible exact mm9))) hroom _ _ bj (hI.rd0 hrj) hbl).mono ?_; rintro e w1 ⟨rfl, a1, c1, hJ⟩; replace hI := hI.on hJ (by (first | with_reducible exact uu0 | with_reducible exact uu1 | with_reducible exact uu2 | with_reducible exact uu3 | with_reducible exact uu4 | with_reducible exact uu5 | with_reducible exact uu6 | with_reducible exact uu7 | with_reducible exact uu8 | with_reducible exact uu9)); clear hJ) | (with_reducible refine wpList_tostr Try.underlying22 Try.underlying5 Try.underlying9 (by with_unfolding_all rfl) (hI.rd0 hrj) rfl ?_) | ((with_reducible refine wpList_bslice1v (v0 := Value.string ⟨bj.toArray⟩) hI slT40 (by with_unfolding_all rfl) rfl ?_); clear hI; intro bx w hI) | (with_reducible refine wpList_append_osl (q := 1) (news := [Value.string ⟨bj.toArray⟩]) hI (by with_unfolding_all rfl) (by with_unfolding_all rfl) slT40 (by intro r'; exact Upd.there Upd.here) (hI.rd (by (first | with_reducible exact mm0 | with_reducible exact mm1 | with_reducible exact mm2 | with_reducible exact mm3 | with_reducible exact mm4 | with_reducible exact mm5 | with_reducible exact mm6 | with_reducible exact mm7 | with_reducible exact mm8 | with_reducible exact mm9))) (by simp) (by simp [Value.oneCell']) (by simp only [maxLen]; omega) (by omega) ?_; clear hI; intro a2 c2 w hI))
        go_roundg (len - (j + 1))
        case measure => omega
        case rel => exact ⟨j + 1, qs ++ [(a1, c1, bj)], a2, c2, by omega, by omega, by go_num, by rw [List.length_append]; rfl, hG2 a1 c1, by rw [List.length_append, List.map_append]; exact hI.sub (.cons _ (.refl _))⟩
      · replace hroom : cap ≤ qs.length := by omega
        have hG2 : Hid (qs.length = min (j + 1) cap ∧ ∀ q ∈ qs, q.2.2.length ≤ 50) := Lib.hid ⟨by have := hG.out.1; omega, hG.out.2⟩
        clear h50
        go_wp2_with (first | ((with_reducible refine wpList_on  (by with_unfolding_all rfl) ?_)) | (with_reducible refine wpList_load_arg1 hI (by with_unfolding_all rfl) hcell (by simp) one22 ?_) | (go_at_call 23; refine (put_bxn _ pb c cap qs (hI.sat _ (by (first | with_reducible exact mm0 | with_reducible exact mm1 | with_reducible exact mm2 | with_reducible exact mm3 | with_reducible exact mm4 | with_reducible exact mm5 | with_reducible exact mm6 | with_reducible exact mm7 | with_reducible exact mm8 | with_reducible exact mm9))) hroom _ _ bj (hI.rd0 hrj) hbl).mono ?_; rintro e w1 ⟨rfl, hw1⟩; replace hI := hI.call hw1; clear hw1))
        go_roundg (len - (j + 1))
        case measure => omega
        case rel => exact ⟨j + 1, qs, am, cm, by omega, by omega, by go_num, rfl, hG2, hI⟩
    · obtain rfl : j = len := by omega
      obtain ⟨ms, hms⟩ : ∃ ms : List (List UInt8), qs.map (·.2.2) = ms := ⟨_, rfl⟩
      have hml : qs.length = ms.length := by rw [← hms]; simp
      have hmin : Hid (ms.length = min j cap) := Lib.hid (by rw [← hml]; exact hG.out.1)
      have hmle : ms.length ≤ 40 := by have := hmin.out; omega
      have hmcap : ms.length ≤ cap := by have := hmin.out; omega
      have hm50 : Hid (∀ b ∈ ms, b.length ≤ 50) := Lib.hid fun b hb => by
        rw [← hms] at hb
        obtain ⟨q, hq, rfl⟩ := List.mem_map.1 hb
        exact hG.out.2 q hq
      have hsm : qs.map (fun q => sv q.2.2) = ms.map sv := by rw [← hms]; simp
      have hrot0 : Hid (qs.map (·.2.2) = ms.drop 0 ++ ms.take 0) := Lib.hid (by simpa using hms)
      rw [hsm] at hI
      rw [hml] at hI ⊢
      clear hG hms hsm hml h
      go_wp2_with fail
      go_loopg [45] ms.length (fun kk i wr => ∃ (l : Nat) (rs : List (Option Addr × Nat × List UInt8)), kk = ms.length - l ∧ l ≤ ms.length ∧ i = .int .i64 l ∧ Hid (rs.map (·.2.2) = ms.drop l ++ ms.take l) ∧
        Inv [] w0 wr [osl 9 1 (.slice am ms.length cm) ms.length (ms.map sv), bxr pb c cap rs])
      case atStart => exact ⟨0, qs, by omega, by omega, rfl, hrot0, hI⟩
      case round =>
        clear hI hrot0
        obtain ⟨l, rs, rfl, hl, rfl, hR, hI⟩ := hrel
        by_cases hll : l < ms.length
        · have hd : ms.drop l = ms[l] :: ms.drop (l + 1) := List.drop_eq_getElem_cons hll
          have hR0 := hR.out
          rw [hd, List.cons_append] at hR0
          match rs, hR0 with
          | (a0, c0, b0) :: rt, hR0 =>
            simp only [List.map_cons, List.cons.injEq] at hR0
            obtain ⟨hb0, hrm⟩ := hR0
            have hbl : b0.length ≤ 100000 := by rw [hb0]; have := hm50.out _ (List.getElem_mem hll); omega
            have hrt : rt.length < cap := by have := congrArg List.length hrm; simp at this; omega
            have hR2 : ∀ (a1 : Option Addr) (c1 : Nat), Hid ((rt ++ [(a1, c1, b0)]).map (·.2.2) = ms.drop (l + 1) ++ ms.take (l + 1)) := fun a1 c1 => Lib.hid (by
              rw [List.map_append, hrm, List.take_succ_eq_append_getElem hll, ← hb0, List.append_assoc]; rfl)
            clear hR hd hb0 hrm
            go_wp2_with (first | ((with_reducible refine wpList_on  (by with_unfolding_all rfl) ?_)) | (go_at_call 26; refine (turn_bx _ pb c cap a0 c0 b0 rt (hI.sat _ (by (first | with_reducible exact mm0 | with_reducible exact mm1 | with_reducible exact mm2 | with_reducible exact mm3 | with_reducible exact mm4 | with_reducible exact mm5 | with_reducible exact mm6 | with_reducible exact mm7 | with_reducible exact mm8 | with_reducible exact mm9))) (hI.nd (by (first | with_reducible exact mm0 | with_reducible exact mm1 | with_reducible exact mm2 | with_reducible exact mm3 | with_reducible exact mm4 | with_reducible exact mm5 | with_reducible exact mm6 | with_reducible exact mm7 | with_reducible exact mm8 | with_reducible exact mm9))) hrt hbl).mono ?_; rintro e w1 ⟨rfl, a1, c1, hJ⟩; replace hI := hI.on hJ (by (first | with_reducible exact uu0 | with_reducible exact uu1 | with_reducible exact uu2 | with_reducible exact uu3 | with_reducible exact uu4 | with_reducible exact uu5 | with_reducible exact uu6 | with_reducible exact uu7 | with_reducible exact uu8 | with_reducible exact uu9)); clear hJ))
            go_roundg (ms.length - (l + 1))
            case measure => omega
            case rel => exact ⟨l + 1, rt ++ [(a1, c1, b0)], by omega, by omega, by go_num, hR2 a1 c1, hI⟩
          | [], hR0 => cases hR0
        · obtain rfl : l = ms.length := by omega
          have hrot3 : Hid (rs.map (·.2.2) = ms.drop 0) := Lib.hid (by have := hR.out; simpa using this)
          clear hR
          go_wp2_with fail
          go_loopg [10, 11, 12, 53] ms.length (fun kk s10 s11 s12 i wr => ∃ (q : Nat) (rs : List (Option Addr × Nat × List UInt8)), kk = ms.length - q ∧ q ≤ ms.length ∧ i = .int .i64 q ∧ Hid (rs.map (·.2.2) = ms.drop q) ∧
            Inv [] w0 wr [osl 9 1 (.slice am ms.length cm) ms.length (ms.map sv), bxr pb c cap rs])
          case atStart => exact ⟨0, rs, by omega, by omega, rfl, hrot3, hI⟩
          case round =>
            clear hI hrot3
            obtain ⟨q, rs, rfl, hq, rfl, hR, hI⟩ := hrel
            by_cases hqq : q < ms.length
            · have hd : ms.drop q = ms[q] :: ms.drop (q + 1) := List.drop_eq_getElem_cons hqq
              have hR0 := hR.out
              rw [hd] at hR0
              obtain ⟨gb, go_, hab, hcell⟩ := (hI.rd (a' := am) mm0) q (sv ms[q]) (by simp [hqq])
              subst hab
              match rs, hR0 with
              | (a0, c0, b0) :: rt, hR0 =>
                simp only [List.map_cons, List.cons.injEq] at hR0
                obtain ⟨hb0, hrm⟩ := hR0
                rw [← hb0] at hcell
                replace hcell : wr.cell? ⟨gb, go_ + q, none⟩ = some (.string ⟨b0.toArray⟩) := hcell
                replace hrm := Lib.hid hrm
                clear hR hd hb0
                go_wp2_with (first | ((with_reducible refine wpList_on  (by with_unfolding_all rfl) ?_)) | (go_at_call 25; refine (take_bx _ pb c cap a0 c0 b0 rt (hI.sat _ (by (first | with_reducible exact mm0 | with_reducible exact mm1 | with_reducible exact mm2 | with_reducible exact mm3 | with_reducible exact mm4 | with_reducible exact mm5 | with_reducible exact mm6 | with_reducible exact mm7 | with_reducible exact mm8 | with_reducible exact mm9))) (hI.nd (by (first | with_reducible exact mm0 | with_reducible exact mm1 | with_reducible exact mm2 | with_reducible exact mm3 | with_reducible exact mm4 | with_reducible exact mm5 | with_reducible exact mm6 | with_reducible exact mm7 | with_reducible exact mm8 | with_reducible exact mm9)))).mono ?_; rintro e w1 ⟨rfl, hJ⟩; replace hI := hI.on2 hJ (by (first | with_reducible exact uu0 | with_reducible exact uu1 | with_reducible exact uu2 | with_reducible exact uu3 | with_reducible exact uu4 | with_reducible exact uu5 | with_reducible exact uu6 | with_reducible exact uu7 | with_reducible exact uu8 | with_reducible exact uu9)); clear hJ) | (with_reducible refine wpList_tostr Try.underlying22 Try.underlying5 Try.underlying9 (by with_unfolding_all rfl) (hI.rd (by (first | with_reducible exact mm0 | with_reducible exact mm1 | with_reducible exact mm2 | with_reducible exact mm3 | with_reducible exact mm4 | with_reducible exact mm5 | with_reducible exact mm6 | with_reducible exact mm7 | with_reducible exact mm8 | with_reducible exact mm9))) rfl ?_))
                go_roundg (ms.length - (q + 1))
                case measure => omega
                case rel => exact ⟨q + 1, rt, by omega, by omega, by go_num, hrm, hI.sub (.cons _ (.refl _))⟩
              | [], hR0 => cases hR0
            · obtain rfl : q = ms.length := by omega
              have hnil : rs = [] := by have := hR.out; simpa using this
              subst hnil
              clear hR hm50
              by_cases h1 : size < 1
              · have hcc : cap = 1 := by rw [← hce.out]; unfold capF; rw [if_pos h1]
                have hm1 : ms.length = 1 := by have := hmin.out; omega
                clear hmin hce
                by_cases hx : (1 : Int) < (j : Int)
                · go_wp2_with (first | ((with_reducible refine wpList_on  (by with_unfolding_all rfl) ?_)) | (go_at_call 27; refine (len_bx _ pb c cap [] (hI.sat _ (by (first | with_reducible exact mm0 | with_reducible exact mm1 | with_reducible exact mm2 | with_reducible exact mm3 | with_reducible exact mm4 | with_reducible exact mm5 | with_reducible exact mm6 | with_reducible exact mm7 | with_reducible exact mm8 | with_reducible exact mm9)))).mono ?_; rintro e w1 ⟨rfl, hw⟩; rw [hw]; clear hw) | (go_at_call 26; refine (turn_bx0 _ pb c cap (hI.sat _ (by (first | with_reducible exact mm0 | with_reducible exact mm1 | with_reducible exact mm2 | with_reducible exact mm3 | with_reducible exact mm4 | with_reducible exact mm5 | with_reducible exact mm6 | with_reducible exact mm7 | with_reducible exact mm8 | with_reducible exact mm9))) (hI.nd (by (first | with_reducible exact mm0 | with_reducible exact mm1 | with_reducible exact mm2 | with_reducible exact mm3 | with_reducible exact mm4 | with_reducible exact mm5 | with_reducible exact mm6 | with_reducible exact mm7 | with_reducible exact mm8 | with_reducible exact mm9)))).mono ?_; rintro e w1 ⟨rfl, hw⟩; rw [hw]; clear hw) | (go_at_call 24; refine (twice_no _ pb c cap [] (hI.sat _ (by (first | with_reducible exact mm0 | with_reducible exact mm1 | with_reducible exact mm2 | with_reducible exact mm3 | with_reducible exact mm4 | with_reducible exact mm5 | with_reducible exact mm6 | with_reducible exact mm7 | with_reducible exact mm8 | with_reducible exact mm9))) (.inl rfl)).mono ?_; rintro e w1 ⟨rfl, hw⟩; rw [hw]; clear hw))
                  go_ret
                  exact ⟨rfl, hI.below⟩
                · obtain rfl : j = 1 := by omega
                  go_wp2_with (first | ((with_reducible refine wpList_on  (by with_unfolding_all rfl) ?_)) | (go_at_call 27; refine (len_bx _ pb c cap [] (hI.sat _ (by (first | with_reducible exact mm0 | with_reducible exact mm1 | with_reducible exact mm2 | with_reducible exact mm3 | with_reducible exact mm4 | with_reducible exact mm5 | with_reducible exact mm6 | with_reducible exact mm7 | with_reducible exact mm8 | with_reducible exact mm9)))).mono ?_; rintro e w1 ⟨rfl, hw⟩; rw [hw]; clear hw) | (go_at_call 26; refine (turn_bx0 _ pb c cap (hI.sat _ (by (first | with_reducible exact mm0 | with_reducible exact mm1 | with_reducible exact mm2 | with_reducible exact mm3 | with_reducible exact mm4 | with_reducible exact mm5 | with_reducible exact mm6 | with_reducible exact mm7 | with_reducible exact mm8 | with_reducible exact mm9))) (hI.nd (by (first | with_reducible exact mm0 | with_reducible exact mm1 | with_reducible exact mm2 | with_reducible exact mm3 | with_reducible exact mm4 | with_reducible exact mm5 | with_reducible exact mm6 | with_reducible exact mm7 | with_reducible exact mm8 | with_reducible exact mm9)))).mono ?_; rintro e w1 ⟨rfl, hw⟩; rw [hw]; clear hw) | (go_at_call 24; refine (twice_no _ pb c cap [] (hI.sat _ (by (first | with_reducible exact mm0 | with_reducible exact mm1 | with_reducible exact mm2 | with_reducible exact mm3 | with_reducible exact mm4 | with_reducible exact mm5 | with_reducible exact mm6 | with_reducible exact mm7 | with_reducible exact mm8 | with_reducible exact mm9))) (.inl rfl)).mono ?_; rintro e w1 ⟨rfl, hw⟩; rw [hw]; clear hw))
                  go_ret
                  exact ⟨rfl, hI.below⟩
              · by_cases h2 : 64 < size
                · have hcc : cap = 64 := by rw [← hce.out]; unfold capF; rw [if_neg h1, if_pos h2]
                  have hm1 : ms.length = j := by have := hmin.out; omega
                  have hbb : ((ms.length : Int) == (j : Int)) = true := by simp [hm1]
                  replace hm1 := Lib.hid hm1
                  have h3 : (1 : Int) < size := by omega
                  have h4 : ¬ (64 : Int) < (j : Int) := by omega
                  have h5 : (j : Int) < 64 := by omega
                  clear hmin hce
                  go_wp2_with (first | ((with_reducible refine wpList_on  (by with_unfolding_all rfl) ?_)) | (go_at_call 27; refine (len_bx _ pb c cap [] (hI.sat _ (by (first | with_reducible exact mm0 | with_reducible exact mm1 | with_reducible exact mm2 | with_reducible exact mm3 | with_reducible exact mm4 | with_reducible exact mm5 | with_reducible exact mm6 | with_reducible exact mm7 | with_reducible exact mm8 | with_reducible exact mm9)))).mono ?_; rintro e w1 ⟨rfl, hw⟩; rw [hw]; clear hw) | (go_at_call 26; refine (turn_bx0 _ pb c cap (hI.sat _ (by (first | with_reducible exact mm0 | with_reducible exact mm1 | with_reducible exact mm2 | with_reducible exact mm3 | with_reducible exact mm4 | with_reducible exact mm5 | with_reducible exact mm6 | with_reducible exact mm7 | with_reducible exact mm8 | with_reducible exact mm9))) (hI.nd (by (first | with_reducible exact mm0 | with_reducible exact mm1 | with_reducible exact mm2 | with_reducible exact mm3 | with_reducible exact mm4 | with_reducible exact mm5 | with_reducible exact mm6 | with_reducible exact mm7 | with_reducible exact mm8 | with_reducible exact mm9)))).mono ?_; rintro e w1 ⟨rfl, hw⟩; rw [hw]; clear hw) | (go_at_call 24; refine (twice_no _ pb c cap [] (hI.sat _ (by (first | with_reducible exact mm0 | with_reducible exact mm1 | with_reducible exact mm2 | with_reducible exact mm3 | with_reducible exact mm4 | with_reducible exact mm5 | with_reducible exact mm6 | with_reducible exact mm7 | with_reducible exact mm8 | with_reducible exact mm9))) (.inl rfl)).mono ?_; rintro e w1 ⟨rfl, hw⟩; rw [hw]; clear hw))
                  go_ret
                  exact ⟨rfl, hI.below⟩
                · have hcc : size = (cap : Int) := by
                    rw [← hce.out]; unfold capF; rw [if_neg h1, if_neg h2]; omega
                  subst hcc
                  clear hce
                  by_cases hx : (cap : Int) < (j : Int)
                  · have hm1 : ms.length = cap := by have := hmin.out; omega
                    have hbb : ((ms.length : Int) == (cap : Int)) = true := by simp [hm1]
                    replace hm1 := Lib.hid hm1
                    clear hmin
                    go_wp2_with (first | ((with_reducible refine wpList_on  (by with_unfolding_all rfl) ?_)) | (go_at_call 27; refine (len_bx _ pb c cap [] (hI.sat _ (by (first | with_reducible exact mm0 | with_reducible exact mm1 | with_reducible exact mm2 | with_reducible exact mm3 | with_reducible exact mm4 | with_reducible exact mm5 | with_reducible exact mm6 | with_reducible exact mm7 | with_reducible exact mm8 | with_reducible exact mm9)))).mono ?_; rintro e w1 ⟨rfl, hw⟩; rw [hw]; clear hw) | (go_at_call 26; refine (turn_bx0 _ pb c cap (hI.sat _ (by (first | with_reducible exact mm0 | with_reducible exact mm1 | with_reducible exact mm2 | with_reducible exact mm3 | with_reducible exact mm4 | with_reducible exact mm5 | with_reducible exact mm6 | with_reducible exact mm7 | with_reducible exact mm8 | with_reducible exact mm9))) (hI.nd (by (first | with_reducible exact mm0 | with_reducible exact mm1 | with_reducible exact mm2 | with_reducible exact mm3 | with_reducible exact mm4 | with_reducible exact mm5 | with_reducible exact mm6 | with_reducible exact mm7 | with_reducible exact mm8 | with_reducible exact mm9)))).mono ?_; rintro e w1 ⟨rfl, hw⟩; rw [hw]; clear hw) | (go_at_call 24; refine (twice_no _ pb c cap [] (hI.sat _ (by (first | with_reducible exact mm0 | with_reducible exact mm1 | with_reducible exact mm2 | with_reducible exact mm3 | with_reducible exact mm4 | with_reducible exact mm5 | with_reducible exact mm6 | with_reducible exact mm7 | with_reducible exact mm8 | with_reducible exact mm9))) (.inl rfl)).mono ?_; rintro e w1 ⟨rfl, hw⟩; rw [hw]; clear hw))
                    go_ret
                    exact ⟨rfl, hI.below⟩
                  · have hm1 : ms.length = j := by have := hmin.out; omega
                    have hbb : ((ms.length : Int) == (j : Int)) = true := by simp [hm1]
                    replace hm1 := Lib.hid hm1
                    clear hmin
                    go_wp2_with (first | ((with_reducible refine wpList_on  (by with_unfolding_all rfl) ?_)) | (go_at_call 27; refine (len_bx _ pb c cap [] (hI.sat _ (by (first | with_reducible exact mm0 | with_reducible exact mm1 | with_reducible exact mm2 | with_reducible exact mm3 | with_reducible exact mm4 | with_reducible exact mm5 | with_reducible exact mm6 | with_reducible exact mm7 | with_reducible exact mm8 | with_reducible exact mm9)))).mono ?_; rintro e w1 ⟨rfl, hw⟩; rw [hw]; clear hw) | (go_at_call 26; refine (turn_bx0 _ pb c cap (hI.sat _ (by (first | with_reducible exact mm0 | with_reducible exact mm1 | with_reducible exact mm2 | with_reducible exact mm3 | with_reducible exact mm4 | with_reducible exact mm5 | with_reducible exact mm6 | with_reducible exact mm7 | with_reducible exact mm8 | with_reducible exact mm9))) (hI.nd (by (first | with_reducible exact mm0 | with_reducible exact mm1 | with_reducible exact mm2 | with_reducible exact mm3 | with_reducible exact mm4 | with_reducible exact mm5 | with_reducible exact mm6 | with_reducible exact mm7 | with_reducible exact mm8 | with_reducible exact mm9)))).mono ?_; rintro e w1 ⟨rfl, hw⟩; rw [hw]; clear hw) | (go_at_call 24; refine (twice_no _ pb c cap [] (hI.sat _ (by (first | with_reducible exact mm0 | with_reducible exact mm1 | with_reducible exact mm2 | with_reducible exact mm3 | with_reducible exact mm4 | with_reducible exact mm5 | with_reducible exact mm6 | with_reducible exact mm7 | with_reducible exact mm8 | with_reducible exact mm9))) (.inl rfl)).mono ?_; rintro e w1 ⟨rfl, hw⟩; rw [hw]; clear hw))
                    go_ret
                    exact ⟨rfl, hI.below⟩
theorem turns_cells (w0 : World) (a : Option Addr) (len c : Nat) (row : Nat → List Value) (size : Int) (h : SlArg w0 a len c [pSlice [pU8]] row) :
    Calls Try.prog 9 #[.slice a len c, .int .i64 size] w0 fun e w' => e = .returned (.bool true) ∧ Below w0.heap.size w0 w' := by
  obtain ⟨ra, rc, rb, hr⟩ := h.barg
  exact turns_walk w0 a len c ra rc rb hr size
end Go.Proofs.Ytckoiabainpamaa
