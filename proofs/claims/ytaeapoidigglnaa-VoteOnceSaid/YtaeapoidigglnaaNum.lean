/-
  Contracts of package num: Right, Add, Sub, Set, Most. Conditions: the form's own reach.
-/
import Derived.Test.YtaeapoidigglnaaTypes
import Derived.Test.YtaeapoidigglnaaSl
import Derived.Test.YtaeapoidigglnaaBits
import Derived.Deep.DeepCutAuto
import Derived.Deep.LoopGhost
namespace Go.Proofs.Ytaeapoidigglnaa
open Go.RowKit

def rightB (n : Int) : Bool := decide (0 ≤ n) && decide (n ≤ 1099511627776)
theorem right_any (w : World) (n : Int) : Calls Try.prog 27 #[.int .i64 n] w fun e w' => e = .returned (.bool (rightB n)) ∧ w' = w := by
  by_cases h : 0 ≤ n
  · go_enter Try.func27, Try.ntmps27
    go_wp2
    go_ret
    exact ⟨ret_bool (by simp [rightB, h]), rfl⟩
  · go_enter Try.func27, Try.ntmps27
    go_wp2
    go_ret
    exact ⟨ret_bool (by rw [show rightB n = false from by simp [rightB]; omega]), rfl⟩

/-- what Sub gives back -/
def subF (a b : Int) : Int × Int := if rightB a && rightB b then (if a < b then (0, 6) else (a - b, 0)) else (0, 5)
theorem right_of {n : Int} (h : rightB n = true) : 0 ≤ n ∧ n ≤ 1099511627776 := by simpa [rightB] using h
theorem sub_any (w : World) (a b : Int) : Calls Try.prog 26 #[.int .i64 a, .int .i64 b] w fun e w' => e = .returned (.tuple #[.int .i64 (subF a b).1, .int .i64 (subF a b).2]) ∧ w' = w := by
  cases ha : rightB a
  · have hs : subF a b = (0, 5) := by simp [subF, ha]
    rw [hs]
    go_enter Try.func26, Try.ntmps26
    go_wp2_with (go_at_call 27; refine (right_any _ _).mono ?_; rintro e w1 ⟨rfl, rfl⟩)
    go_ret2
    exact ⟨rfl, rfl⟩
  · cases hb : rightB b
    · have hs : subF a b = (0, 5) := by simp [subF, hb]
      rw [hs]
      go_enter Try.func26, Try.ntmps26
      go_wp2_with (go_at_call 27; refine (right_any _ _).mono ?_; rintro e w1 ⟨rfl, rfl⟩)
      go_ret2
      exact ⟨rfl, rfl⟩
    · have h1 := right_of ha
      have h2 := right_of hb
      by_cases hlt : a < b
      · have hs : subF a b = (0, 6) := by simp [subF, ha, hb, hlt]
        rw [hs]
        go_enter Try.func26, Try.ntmps26
        go_wp2_with (go_at_call 27; refine (right_any _ _).mono ?_; rintro e w1 ⟨rfl, rfl⟩)
        go_ret2
        exact ⟨rfl, rfl⟩
      · have hs : subF a b = (a - b, 0) := by simp [subF, ha, hb, hlt]
        rw [hs]
        go_enter Try.func26, Try.ntmps26
        go_wp2_with (go_at_call 27; refine (right_any _ _).mono ?_; rintro e w1 ⟨rfl, rfl⟩)
        go_ret2
        exact ⟨rfl, rfl⟩

/-- what Add gives back, from a sum on -/
def addGo (s : Int) : List Int → Int × Int
  | [] => (s, 0)
  | z :: zs => if rightB z = true then (if 1099511627776 - s < z then (0, 6) else addGo (s + z) zs) else (0, 5)
def addF (zs : List Int) : Int × Int := addGo 0 zs

theorem add_any (w : World) (a : Option Addr) (c : Nat) (zs : List Int) (hr : Rd w a (zs.map iv)) (hl : zs.length ≤ 140737488351232) :
    Calls Try.prog 23 #[.slice a zs.length c] w fun e w' => e = .returned (.tuple #[.int .i64 (addF zs).1, .int .i64 (addF zs).2]) ∧ w' = w := by
  go_enter Try.func23, Try.ntmps23
  go_wp2
  go_loop [4, 9] (fun s i => ∃ (j : Nat) (x : Int), j ≤ zs.length ∧ i = .int .i64 j ∧ s = .int .i64 x ∧ 0 ≤ x ∧ x ≤ 1099511627776 ∧ addF zs = addGo x (zs.drop j)) (fun _ i => zs.length - (intOf i).toNat)
  case atStart => exact ⟨0, 0, by omega, rfl, rfl, by omega, by omega, rfl⟩
  case round =>
    obtain ⟨j, x, hj, rfl, rfl, h0, h1, hx⟩ := hrel
    by_cases hlj : j < zs.length
    · obtain ⟨b, off, rfl, hc⟩ := hr j (iv zs[j]) (by simp [hlj])
      rw [List.drop_eq_getElem_cons hlj] at hx
      generalize zs[j] = z at *
      simp only [iv] at hc
      simp only [addGo] at hx
      have HX := Lib.hid hx
      clear hx hr
      cases hz : rightB z
      · have HX2 : Hid (addF zs = (0, 5)) := by have := HX.out; rw [hz] at this; exact this
        clear HX
        go_wp2_with (go_at_call 27; refine (right_any _ _).mono ?_; rintro e w1 ⟨rfl, rfl⟩)
        go_ret2
        exact ⟨by rw [HX2.out]; rfl, rfl⟩
      · have h2 := right_of hz
        by_cases hgt : 1099511627776 - x < z
        · have HX2 : Hid (addF zs = (0, 6)) := by have := HX.out; rw [hz, if_pos rfl, if_pos hgt] at this; exact this
          clear HX
          go_wp2_with (go_at_call 27; refine (right_any _ _).mono ?_; rintro e w1 ⟨rfl, rfl⟩)
          go_ret2
          exact ⟨by rw [HX2.out]; rfl, rfl⟩
        · have HX2 : Hid (addF zs = addGo (x + z) (zs.drop (j + 1))) := by have := HX.out; rw [hz, if_pos rfl, if_neg hgt] at this; exact this
          clear HX
          go_wp2_with (go_at_call 27; refine (right_any _ _).mono ?_; rintro e w1 ⟨rfl, rfl⟩)
          go_round
          case rel => exact ⟨j + 1, x + z, by omega, by go_num, by go_num, by omega, by omega, HX2.out⟩
          case measure => simp [intOf]; omega
    · obtain rfl : j = zs.length := by omega
      have HX : Hid (addF zs = (x, 0)) := Lib.hid (by rw [hx]; simp [addGo])
      clear hx
      go_wp2
      go_ret2
      exact ⟨by rw [HX.out]; rfl, rfl⟩
theorem slT39 : SlT Try.prog 39 3 1 8 (.int .i64 0) := ⟨by kernel_rfl, by kernel_rfl, by kernel_rfl, by decide⟩

/-- a set's members below j -/
def setTo (x : Int) (j : Nat) : List Int := ((List.range j).filter (bt x)).map (fun (i : Nat) => (i : Int))
theorem setTo_succ (x : Int) (j : Nat) : setTo x (j + 1) = setTo x j ++ (if bt x j = true then [(j : Int)] else []) := by
  unfold setTo
  rw [List.range_succ, List.filter_append, List.map_append]
  congr 1
  cases h : bt x j <;> simp [h]
theorem setTo_len (x : Int) (j : Nat) : (setTo x j).length ≤ j := by
  unfold setTo
  rw [List.length_map]
  exact Nat.le_trans (List.length_filter_le _ _) (by simp)
theorem bit_test (x : Int) (j : Nat) : (bits BinOp.and IntKind.i64 (x / 2 ^ j) 1 == 1) = bt x j := by
  rw [i64_and1]; rfl

theorem set_any (w0 : World) (x : Int) : Calls Try.prog 24 #[.int .i64 x] w0 fun e w' =>
    ∃ a c, e = .returned (.slice a (setTo x 5).length c) ∧ Inv [] w0 w' [osl 3 1 (.slice a (setTo x 5).length c) (setTo x 5).length ((setTo x 5).map (Value.int .i64))] := by
  have hI := (Inv.start w0).nilSl 3 1
  go_enter Try.func24, Try.ntmps24
  go_wp2
  go_loopg [3, 5] 5 (fun k s i wr => ∃ (j : Nat) (a : Option Addr) (c : Nat), k = 5 - j ∧ j ≤ 5 ∧ i = .int .i64 j ∧ s = .slice a (setTo x j).length c ∧ Inv [] w0 wr [osl 3 1 (.slice a (setTo x j).length c) (setTo x j).length ((setTo x j).map (Value.int .i64))])
  case atStart => exact ⟨0, none, 0, rfl, by omega, rfl, by simp [setTo], by simpa [setTo] using hI⟩
  case round =>
    clear hI
    obtain ⟨j, a, c, rfl, hj, rfl, rfl, hI⟩ := hrel
    by_cases hlj : j < 5
    · have hlen := setTo_len x j
      have hs := setTo_succ x j
      have hbt := bit_test x j
      cases hb : bt x j
      · rw [hb] at hbt hs
        simp only [Bool.false_eq_true, if_false, List.append_nil] at hs
        have hs2 := Lib.hid hs
        clear hs hb
        go_wp2
        go_roundg (5 - (j + 1))
        case measure => omega
        case rel => exact ⟨j + 1, a, c, rfl, by omega, by go_num, by rw [hs2.out], by rw [hs2.out]; exact hI⟩
      · rw [hb] at hbt hs
        simp only [if_true] at hs
        have hs2 := Lib.hid hs
        clear hs hb
        go_wp2_with (first | (with_reducible refine wpList_bslice1 hI slT39 (by with_unfolding_all rfl) ?_; clear hI; intro _ w hI) | (with_reducible refine wpList_append_osl hI (by with_unfolding_all rfl) (by with_unfolding_all rfl) slT39 (by intro r'; exact Upd.there Upd.here) (hI.rd (by (first | with_reducible exact List.mem_cons_self | with_reducible exact List.mem_cons_of_mem _ (List.mem_cons_self) | with_reducible exact List.mem_cons_of_mem _ (List.mem_cons_of_mem _ (List.mem_cons_self)) | with_reducible exact List.mem_cons_of_mem _ (List.mem_cons_of_mem _ (List.mem_cons_of_mem _ (List.mem_cons_self))) | with_reducible exact List.mem_cons_of_mem _ (List.mem_cons_of_mem _ (List.mem_cons_of_mem _ (List.mem_cons_of_mem _ (List.mem_cons_self)))) | with_reducible exact List.mem_cons_of_mem _ (List.mem_cons_of_mem _ (List.mem_cons_of_mem _ (List.mem_cons_of_mem _ (List.mem_cons_of_mem _ (List.mem_cons_self))))) | with_reducible exact List.mem_cons_of_mem _ (List.mem_cons_of_mem _ (List.mem_cons_of_mem _ (List.mem_cons_of_mem _ (List.mem_cons_of_mem _ (List.mem_cons_of_mem _ (List.mem_cons_self)))))) | with_reducible exact List.mem_cons_of_mem _ (List.mem_cons_of_mem _ (List.mem_cons_of_mem _ (List.mem_cons_of_mem _ (List.mem_cons_of_mem _ (List.mem_cons_of_mem _ (List.mem_cons_of_mem _ (List.mem_cons_self))))))) | with_reducible exact List.mem_cons_of_mem _ (List.mem_cons_of_mem _ (List.mem_cons_of_mem _ (List.mem_cons_of_mem _ (List.mem_cons_of_mem _ (List.mem_cons_of_mem _ (List.mem_cons_of_mem _ (List.mem_cons_of_mem _ (List.mem_cons_self)))))))) | with_reducible exact List.mem_cons_of_mem _ (List.mem_cons_of_mem _ (List.mem_cons_of_mem _ (List.mem_cons_of_mem _ (List.mem_cons_of_mem _ (List.mem_cons_of_mem _ (List.mem_cons_of_mem _ (List.mem_cons_of_mem _ (List.mem_cons_of_mem _ (List.mem_cons_self)))))))))))) (by with_unfolding_all rfl) (by simp [Value.oneCell']) (by simp only [maxLen]; omega) (by omega) ?_; clear hI; intro a' c' w hI))
        go_roundg (5 - (j + 1))
        case measure => omega
        case rel =>
          have e : (setTo x (j + 1)).length = (setTo x j).length + 1 := by rw [hs2.out]; simp
          refine ⟨j + 1, a', c', rfl, by omega, by go_num, by rw [e], ?_⟩
          rw [e, hs2.out, List.map_append]
          exact hI.sub (.cons _ (.refl _))
    · obtain rfl : j = 5 := by omega
      go_wp2
      go_ret
      exact ⟨a, c, rfl, hI⟩
end Go.Proofs.Ytaeapoidigglnaa
