/-
  The laws NumAdds and NumSets. No condition.
-/
import Derived.Test.YtaeapoidigglnaaNum2
namespace Go.Proofs.Ytaeapoidigglnaa
open Go.RowKit

/-- the law's own sum so far: x, or e -/
def wantIs (zs : List Int) (j : Nat) (x e : Int) : Prop := (e = 0 ∧ 0 ≤ x ∧ x ≤ 1099511627776 ∧ addF zs = addGo x (zs.drop j)) ∨ (e ≠ 0 ∧ x = 0 ∧ addF zs = (0, e))

set_option maxHeartbeats 1600000 in
theorem adds_walk (w0 : World) (a : Option Addr) (c : Nat) (zs : List Int) (hr : Rd w0 a (zs.map (Value.int .i64))) :
    Calls Try.prog 6 #[.slice a zs.length c] w0 fun e w' => e = .returned (.bool true) ∧ Below w0.heap.size w0 w' := by
  have hI := Inv.start w0
  by_cases hbig : zs.length > 100
  · have hb : (100 : Int) < (zs.length : Int) := by omega
    go_enter Try.func6, Try.ntmps6
    go_wp2_with (first | (go_at_call 22; refine (fit01 _).mono ?_; rintro e w1 ⟨rfl, hw1⟩; replace hI := hI.call hw1; clear hw1))
    go_ret
    exact ⟨rfl, hI.below⟩
  · have hb : (zs.length : Int) ≤ 100 := by omega
    go_enter Try.func6, Try.ntmps6
    go_wp2_with (first | (go_at_call 22; refine (fit01 _).mono ?_; rintro e w1 ⟨rfl, hw1⟩; replace hI := hI.call hw1; clear hw1))
    rename_i w _ _
    go_loop [3, 4, 16] (fun s t i => ∃ (j : Nat) (x e : Int), j ≤ zs.length ∧ i = .int .i64 j ∧ s = .int .i64 x ∧ t = .int .i64 e ∧ wantIs zs j x e) (fun _ _ i => zs.length - (intOf i).toNat)
    case atStart => exact ⟨0, 0, 0, by omega, rfl, rfl, rfl, .inl ⟨rfl, by omega, by omega, rfl⟩⟩
    case round =>
      obtain ⟨j, x, e, hj, rfl, rfl, rfl, hx⟩ := hrel
      by_cases hlj : j < zs.length
      · obtain ⟨b, off, rfl, hc⟩ := (hI.rd0 hr) j (.int .i64 zs[j]) (by simp [hlj])
        have hd : zs.drop j = zs[j] :: zs.drop (j + 1) := List.drop_eq_getElem_cons hlj
        generalize zs[j] = z at *
        rcases hx with ⟨rfl, h0, h1, hx⟩ | ⟨he, rfl, hx⟩
        · rw [hd] at hx
          simp only [addGo] at hx
          by_cases hz0 : z < 0
          · have HX : Hid (addF zs = (0, 5)) := Lib.hid (by rw [hx, if_neg (by simp [rightB]; omega)])
            clear hx hd hr
            go_wp2
            go_round
            case rel => exact ⟨j + 1, 0, 5, by omega, by go_num, rfl, rfl, .inr ⟨by decide, rfl, HX.out⟩⟩
            case measure => simp [intOf]; omega
          · by_cases hz1 : 1099511627776 < z
            · have HX : Hid (addF zs = (0, 5)) := Lib.hid (by rw [hx, if_neg (by simp [rightB]; omega)])
              clear hx hd hr
              go_wp2
              go_round
              case rel => exact ⟨j + 1, 0, 5, by omega, by go_num, rfl, rfl, .inr ⟨by decide, rfl, HX.out⟩⟩
              case measure => simp [intOf]; omega
            · by_cases hgt : 1099511627776 < x + z
              · have HX : Hid (addF zs = (0, 6)) := Lib.hid (by rw [hx, if_pos (by simp [rightB]; omega), if_pos (by omega)])
                clear hx hd hr
                go_wp2
                go_round
                case rel => exact ⟨j + 1, 0, 6, by omega, by go_num, rfl, rfl, .inr ⟨by decide, rfl, HX.out⟩⟩
                case measure => simp [intOf]; omega
              · have HX : Hid (addF zs = addGo (x + z) (zs.drop (j + 1))) := Lib.hid (by rw [hx, if_pos (by simp [rightB]; omega), if_neg (by omega)])
                clear hx hd hr
                go_wp2
                go_round
                case rel => exact ⟨j + 1, x + z, 0, by omega, by go_num, by go_num, rfl, .inl ⟨rfl, by omega, by omega, HX.out⟩⟩
                case measure => simp [intOf]; omega
        · have HX := Lib.hid hx
          have he0 : (e == 0) = false := by simpa using he
          clear hx hd hr
          go_wp2
          go_round
          case rel => exact ⟨j + 1, 0, e, by omega, by go_num, rfl, rfl, .inr ⟨he, rfl, HX.out⟩⟩
          case measure => simp [intOf]; omega
      · obtain rfl : j = zs.length := by omega
        have hF : addF zs = (x, e) := by
          rcases hx with ⟨rfl, h0, h1, hx⟩ | ⟨he, rfl, hx⟩
          · rw [hx]; simp [addGo]
          · exact hx
        clear hx
        have hr1 := hI.rd0 hr
        go_wp2_with (go_at_call 23; refine (add_any _ _ _ zs hr1 (by omega)).mono ?_; rintro e w1 ⟨rfl, rfl⟩)
        go_ret
        exact ⟨rfl, hI.below⟩

/-- the law's count of a set's members below j that were met -/
theorem setTo_at (x : Int) (j : Nat) (h : bt x j = true) : ∀ n, j < n → (setTo x n)[(setTo x j).length]? = some (j : Int) := by
  intro n
  induction n with
  | zero => intro h; omega
  | succ n ih =>
    intro hj
    rw [setTo_succ]
    by_cases hn : j = n
    · subst hn
      rw [if_pos h, List.getElem?_append_right (Nat.le_refl _)]
      simp
    · have := ih (by omega)
      rw [List.getElem?_append_left, this]
      exact (List.getElem?_eq_some_iff.1 this).1

/-- how many of the bits below j -/
def cnt (x : Int) (j : Nat) : Int := ((setTo x j).length : Int)
theorem cnt_succ (x : Int) (j : Nat) : cnt x (j + 1) = cnt x j + bits BinOp.and IntKind.i64 (x / 2 ^ j) 1 := by
  have h := bit_test x j
  rw [i64_and1] at *
  unfold cnt
  rw [setTo_succ, List.length_append]
  cases hb : bt x j
  · rw [hb] at h
    have : x / 2 ^ j % 2 = 0 := by have := Int.emod_two_eq (x / 2 ^ j); simp at h; omega
    rw [this]; simp
  · rw [hb] at h
    have : x / 2 ^ j % 2 = 1 := by simpa using h
    rw [this]; simp
theorem cnt_range (x : Int) (j : Nat) : 0 ≤ cnt x j ∧ cnt x j ≤ j := by
  have := setTo_len x j
  unfold cnt; omega
theorem most_cnt (p q : Int) : mostB p q = decide (cnt q 5 < 2 * cnt (bits BinOp.and IntKind.i64 p q) 5) := by
  unfold mostB cnt
  rw [Bool.eq_iff_iff]; simp only [decide_eq_true_eq]; omega

set_option maxHeartbeats 1600000 in
theorem sets_walk (w0 : World) (x y : Int) :
    Calls Try.prog 7 #[.int .i64 x, .int .i64 y] w0 fun e w' => e = .returned (.bool true) ∧ Below w0.heap.size w0 w' := by
  have hI := Inv.start w0
  go_enter Try.func7, Try.ntmps7
  go_wp2_with (first | (go_at_call 22; refine (fit01 _).mono ?_; rintro e w1 ⟨rfl, hw1⟩; replace hI := hI.call hw1; clear hw1) | (go_at_call 24; refine (set_any _ _).mono ?_; rintro e w1 ⟨a1, c1, rfl, hJ⟩; replace hI := hI.seq hJ; clear hJ))
  have hr0 : Rd w1 a1 ((setTo x 5).map (Value.int .i64)) := hI.rd (List.mem_cons_self)
  have hl5 := setTo_len x 5
  go_loop [6, 15] (fun k i => ∃ (j : Nat), j ≤ 5 ∧ i = .int .i64 j ∧ k = .int .i64 ((setTo x j).length : Nat)) (fun _ i => 5 - (intOf i).toNat)
  case atStart => exact ⟨0, by omega, rfl, rfl⟩
  case round =>
    obtain ⟨j, hj, rfl, rfl⟩ := hrel
    by_cases hlj : j < 5
    · have hs := setTo_succ x j
      have hbt := bit_test x j
      have hlj2 := setTo_len x j
      cases hb : bt x j
      · rw [hb] at hbt hs
        simp only [Bool.false_eq_true, if_false, List.append_nil] at hs
        have hs2 := Lib.hid hs
        clear hs hb hr0
        go_wp2
        go_round
        case rel => exact ⟨j + 1, by omega, by go_num, by rw [hs2.out]⟩
        case measure => simp [intOf]; omega
      · have hat := setTo_at x j hb 5 hlj
        have hlt := (List.getElem?_eq_some_iff.1 hat).1
        obtain ⟨b, off, rfl, hc⟩ := hr0 (setTo x j).length (.int .i64 j) (by simp [hat])
        rw [hb] at hbt hs
        simp only [if_true] at hs
        have hs2 : Hid ((setTo x (j + 1)).length = (setTo x j).length + 1) := Lib.hid (by rw [hs]; simp)
        clear hs hb hr0 hat
        go_wp2
        go_round
        case rel => exact ⟨j + 1, by omega, by go_num, by rw [hs2.out]; go_num⟩
        case measure => simp [intOf]; omega
    · obtain rfl : j = 5 := by omega
      clear hr0
      go_wp2
      go_loop [8, 9, 38] (fun s t i => ∃ (j : Nat), j ≤ 5 ∧ i = .int .i64 j ∧ s = .int .i64 (cnt (bits BinOp.and IntKind.i64 x y) j) ∧ t = .int .i64 (cnt y j)) (fun _ _ i => 5 - (intOf i).toNat)
      case atStart => exact ⟨0, by omega, rfl, rfl, rfl⟩
      case round =>
        obtain ⟨j, hj, rfl, rfl, rfl⟩ := hrel
        by_cases hlj : j < 5
        · have h1 := Lib.hid (cnt_succ y j)
          have h2 := Lib.hid (cnt_succ (bits BinOp.and IntKind.i64 x y) j)
          have r1 := cnt_range y j
          have r2 := cnt_range (bits BinOp.and IntKind.i64 x y) j
          have s1 := cnt_range y (j + 1)
          have s2 := cnt_range (bits BinOp.and IntKind.i64 x y) (j + 1)
          rw [cnt_succ] at s1 s2
          go_wp2
          go_round
          case rel => exact ⟨j + 1, by omega, by go_num, by rw [h2.out], by rw [h1.out]⟩
          case measure => simp [intOf]; omega
        · obtain rfl : j = 5 := by omega
          have hm := Lib.hid (most_cnt x y)
          have r1 := cnt_range y 5
          have r2 := cnt_range (bits BinOp.and IntKind.i64 x y) 5
          go_wp2_with (first | (go_at_call 25; refine (most_any _ _ _).mono ?_; rintro e w1 ⟨rfl, hw1⟩; replace hI := hI.call hw1; clear hw1))
          go_ret
          exact ⟨ret_bool (by rw [hm.out]; simp), hI.below⟩
end Go.Proofs.Ytaeapoidigglnaa
