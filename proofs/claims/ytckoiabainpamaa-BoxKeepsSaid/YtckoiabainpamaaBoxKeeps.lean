/-
  The law BoxKeeps: its walk. No condition.
-/
import Derived.Test.YtckoiabainpamaaBoxFit
import Derived.Test.YtckoiabainpamaaMark
import Derived.Test.YtckoiabainpamaaSumTakes
namespace Go.Proofs.Ytckoiabainpamaa
open Go.RowKit
set_option maxRecDepth 100000
theorem splice_u8 (zs : List Int) (j : Nat) (v : Int) (hj : j < zs.length) : splice (zs.map (Value.int .u8)) j [.int .u8 v] = (zs.set j v).map (Value.int .u8) := by
  rw [List.set_eq_take_append_cons_drop, if_pos hj]
  simp [splice, List.map_take, List.map_drop]
theorem cap2 : capF 2 = 2 := by decide
theorem one5 : OneT Try.prog 5 := ⟨by kernel_rfl, by kernel_rfl⟩
theorem nmk4 {T : List Nat} {w0 w : World} {a : Nat} {cs : List Value} {r1 r2 : Res} {m : List Res} (_ : Inv T w0 w (r1 :: r2 :: mkr a cs :: m)) : ∃ a', a' = a := ⟨a, rfl⟩
set_option maxHeartbeats 3200000 in
theorem keeps_walk (w0 : World) (a : Option Addr) (cp : Nat) (bs : List UInt8) (x : Int) (hr : Rd w0 a (bs.map bv)) :
    Calls Try.prog 8 #[.slice a bs.length cp, .int .u8 x] w0 fun e w' => e = .returned (.bool true) ∧ Below w0.heap.size w0 w' := by
  have hI := Inv.start w0
  by_cases h0 : bs.length = 0
  · have hb0 : ((bs.length : Int) == 0) = true := by simp [h0]
    clear h0
    go_enter Try.func8, Try.ntmps8
    go_wp2_with (first | ((with_reducible refine wpList_on  (by with_unfolding_all rfl) ?_)) | (go_at_call 21; refine (fit08 _).mono ?_; rintro e w1 ⟨rfl, hw1⟩; replace hI := hI.call hw1; clear hw1))
    go_ret
    exact ⟨rfl, hI.below⟩
  have hb0 : ((bs.length : Int) == 0) = false := by simp; exact fun h => h0 (by rw [h]; rfl)
  by_cases hbig : 200 < bs.length
  · have hb : decide ((200 : Int) < (bs.length : Int)) = true := by simp; omega
    clear h0 hbig
    go_enter Try.func8, Try.ntmps8
    go_wp2_with (first | ((with_reducible refine wpList_on  (by with_unfolding_all rfl) ?_)) | (go_at_call 21; refine (fit08 _).mono ?_; rintro e w1 ⟨rfl, hw1⟩; replace hI := hI.call hw1; clear hw1))
    go_ret
    exact ⟨rfl, hI.below⟩
  have hb : decide ((200 : Int) < (bs.length : Int)) = false := by simp; omega
  have hl : bs.length ≤ 100000 := by omega
  have hl200 : bs.length ≤ 200 := by omega
  have hpos : 0 < bs.length := by omega
  clear hbig h0
  have hsz : Hid (((⟨bs.toArray⟩ : ByteArray).size : Int) = (bs.length : Int)) := Lib.hid (by simp [ByteArray.size])
  obtain ⟨b0, hb00⟩ : ∃ b0 : UInt8, bs[0]? = some b0 := ⟨bs[0], by simp [hpos]⟩
  have hv0 : Hid ((bs.map bv)[0]? = some (.int .u8 (b0.toNat : Int))) := Lib.hid (by rw [List.getElem?_map, hb00]; rfl)
  have hj0 : 0 < (bs.map bv).length := by simpa using hpos
  clear hb00
  go_enter Try.func8, Try.ntmps8
  go_upto_region 13 with (first | ((with_reducible refine wpList_on  (by with_unfolding_all rfl) ?_)) | (go_at_call 21; refine (fit08 _).mono ?_; rintro e w1 ⟨rfl, hw1⟩; replace hI := hI.call hw1; clear hw1) | (with_reducible refine wpList_tostr Try.underlying22 Try.underlying5 Try.underlying9 (by with_unfolding_all rfl) (hI.rd0 hr) rfl ?_) | ((with_reducible refine wpList_tobytes hI Try.underlying9 Try.underlying22 Try.underlying5 (by with_unfolding_all rfl) ?_); clear hI; intro bm cm w hI) | (go_at_call 22; refine (new_bx _ 2).mono ?_; rintro e w1 ⟨pb, c, rfl, hJ⟩; replace hI := hI.seq hJ; rw [cap2] at hI; simp only [List.cons_append, List.nil_append] at hI; clear hJ) | (go_at_call 23; refine (put_box _ pb c 2 [] (hI.sat _ (by (first | with_reducible exact mm0 | with_reducible exact mm1 | with_reducible exact mm2 | with_reducible exact mm3 | with_reducible exact mm4 | with_reducible exact mm5 | with_reducible exact mm6 | with_reducible exact mm7 | with_reducible exact mm8 | with_reducible exact mm9))) (hI.nd (by (first | with_reducible exact mm0 | with_reducible exact mm1 | with_reducible exact mm2 | with_reducible exact mm3 | with_reducible exact mm4 | with_reducible exact mm5 | with_reducible exact mm6 | with_reducible exact mm7 | with_reducible exact mm8 | with_reducible exact mm9))) (by simp) _ _ bs (mkr_rd (hI.sat _ (by (first | with_reducible exact mm0 | with_reducible exact mm1 | with_reducible exact mm2 | with_reducible exact mm3 | with_reducible exact mm4 | with_reducible exact mm5 | with_reducible exact mm6 | with_reducible exact mm7 | with_reducible exact mm8 | with_reducible exact mm9)))) hl).mono ?_; rintro e w1 ⟨rfl, a1, c1, hJ⟩; replace hI := hI.on hJ (by (first | with_reducible exact uu0 | with_reducible exact uu1 | with_reducible exact uu2 | with_reducible exact uu3 | with_reducible exact uu4 | with_reducible exact uu5 | with_reducible exact uu6 | with_reducible exact uu7 | with_reducible exact uu8 | with_reducible exact uu9)); simp only [List.cons_append, List.nil_append] at hI; clear hJ) | (with_reducible refine wpList_load_mkr hI (by with_unfolding_all rfl) (by (first | with_reducible exact mm0 | with_reducible exact mm1 | with_reducible exact mm2 | with_reducible exact mm3 | with_reducible exact mm4 | with_reducible exact mm5 | with_reducible exact mm6 | with_reducible exact mm7 | with_reducible exact mm8 | with_reducible exact mm9)) one5 hv0.out ?_) | ((with_reducible refine wpList_store_mkr hI (by with_unfolding_all rfl) (by with_unfolding_all rfl) (by (first | with_reducible exact uu0 | with_reducible exact uu1 | with_reducible exact uu2 | with_reducible exact uu3 | with_reducible exact uu4 | with_reducible exact uu5 | with_reducible exact uu6 | with_reducible exact uu7 | with_reducible exact uu8 | with_reducible exact uu9)) size5 hj0 ?_); clear hI; intro w hI) | (go_at_call 24; refine (twice_walk _ pb c 2 (a1, c1, bs) [] (hI.sat _ (by (first | with_reducible exact mm0 | with_reducible exact mm1 | with_reducible exact mm2 | with_reducible exact mm3 | with_reducible exact mm4 | with_reducible exact mm5 | with_reducible exact mm6 | with_reducible exact mm7 | with_reducible exact mm8 | with_reducible exact mm9))) (hI.nd (by (first | with_reducible exact mm0 | with_reducible exact mm1 | with_reducible exact mm2 | with_reducible exact mm3 | with_reducible exact mm4 | with_reducible exact mm5 | with_reducible exact mm6 | with_reducible exact mm7 | with_reducible exact mm8 | with_reducible exact mm9))) (by simp) (by decide) hl).mono ?_; rintro e w1 ⟨rfl, a2, c2, hJ⟩; replace hI := hI.on hJ (by (first | with_reducible exact uu0 | with_reducible exact uu1 | with_reducible exact uu2 | with_reducible exact uu3 | with_reducible exact uu4 | with_reducible exact uu5 | with_reducible exact uu6 | with_reducible exact uu7 | with_reducible exact uu8 | with_reducible exact uu9)); simp only [List.cons_append, List.nil_append] at hI; clear hJ) | (go_at_call 25; refine (take_bx _ pb c 2 a1 c1 bs [(a2, c2, bs)] (hI.sat _ (by (first | with_reducible exact mm0 | with_reducible exact mm1 | with_reducible exact mm2 | with_reducible exact mm3 | with_reducible exact mm4 | with_reducible exact mm5 | with_reducible exact mm6 | with_reducible exact mm7 | with_reducible exact mm8 | with_reducible exact mm9))) (hI.nd (by (first | with_reducible exact mm0 | with_reducible exact mm1 | with_reducible exact mm2 | with_reducible exact mm3 | with_reducible exact mm4 | with_reducible exact mm5 | with_reducible exact mm6 | with_reducible exact mm7 | with_reducible exact mm8 | with_reducible exact mm9)))).mono ?_; rintro e w1 ⟨rfl, hJ⟩; replace hI := hI.on2 hJ (by (first | with_reducible exact uu0 | with_reducible exact uu1 | with_reducible exact uu2 | with_reducible exact uu3 | with_reducible exact uu4 | with_reducible exact uu5 | with_reducible exact uu6 | with_reducible exact uu7 | with_reducible exact uu8 | with_reducible exact uu9)); clear hJ) | (with_reducible refine wpList_tostr Try.underlying22 Try.underlying5 Try.underlying9 (by with_unfolding_all rfl) (hI.rd (by (first | with_reducible exact mm0 | with_reducible exact mm1 | with_reducible exact mm2 | with_reducible exact mm3 | with_reducible exact mm4 | with_reducible exact mm5 | with_reducible exact mm6 | with_reducible exact mm7 | with_reducible exact mm8 | with_reducible exact mm9))) rfl ?_))
  (try simp only [Act.put, List.setIfInBounds_toArray, List.set_cons_succ, List.set_cons_zero])
  obtain ⟨g, rfl⟩ := osl_some (a' := a1) hI (by (first | with_reducible exact mm0 | with_reducible exact mm1 | with_reducible exact mm2 | with_reducible exact mm3 | with_reducible exact mm4 | with_reducible exact mm5 | with_reducible exact mm6 | with_reducible exact mm7 | with_reducible exact mm8 | with_reducible exact mm9)) (by simpa using hpos)
  obtain ⟨zs0, hz0⟩ : ∃ zs0 : List Int, bs.map bv = zs0.map (Value.int .u8) := ⟨bs.map (fun b => (b.toNat : Int)), by simp [bv, Function.comp_def]⟩
  have hz0l : zs0.length = bs.length := by have := congrArg List.length hz0; simpa using this.symm
  replace hI := hI.sub (m' := [osl 5 1 (.slice (some ⟨g, 0, none⟩) bs.length c1) bs.length (bs.map bv), bxr pb c 2 [(a2, c2, bs)]]) (.cons_cons _ (.cons_cons _ (List.nil_sublist _)))
  rw [hz0] at hI
  clear hz0 hv0 hj0 hb hb0
  replace hr := Lib.hid hr
  go_wp2_with fail
  go_loopg [10, 48] bs.length (fun kk s10 i wr => ∃ (j : Nat) (zs : List Int), kk = bs.length - j ∧ j ≤ bs.length ∧ i = .int .i64 j ∧ zs.length = bs.length ∧ Inv [] w0 wr [osl 5 1 (.slice (some ⟨g, 0, none⟩) bs.length c1) bs.length (zs.map (Value.int .u8)), bxr pb c 2 [(a2, c2, bs)]])
  case atStart => exact ⟨0, zs0, by omega, by omega, rfl, hz0l, hI⟩
  case round =>
    clear hI hz0l
    obtain ⟨j, zs, rfl, hj, rfl, hzl, hI⟩ := hrel
    by_cases hlj : j < bs.length
    · obtain ⟨gb, go_, hab, hcell⟩ := (hI.rd (a' := some ⟨g, 0, none⟩) mm0) j (.int .u8 zs[j]) (by simp [hzl, hlj])
      cases hab
      rw [Nat.zero_add] at hcell
      have hlj' : (j : Int) < (bs.length : Int) := by omega
      generalize zs[j] = z at hcell
      go_wp2_with (first | ((with_reducible refine wpList_store_osl1 hI (by with_unfolding_all rfl) (by with_unfolding_all rfl) (by (first | with_reducible exact uu0 | with_reducible exact uu1 | with_reducible exact uu2 | with_reducible exact uu3 | with_reducible exact uu4 | with_reducible exact uu5 | with_reducible exact uu6 | with_reducible exact uu7 | with_reducible exact uu8 | with_reducible exact uu9)) size5 (by simp only [List.length_map]; omega) ?_); clear hI; intro w hI))
      rw [splice_u8 _ _ _ (by omega)] at hI
      go_roundg (bs.length - (j + 1))
      case measure => omega
      case rel => exact ⟨j + 1, _, by omega, by omega, by go_num, by simp [hzl], hI⟩
    · obtain rfl : j = bs.length := by omega
      have hle2 : ((bs.length : Int) == (bs.length : Int)) = true := by simp
      go_wp2_with (first | ((with_reducible refine wpList_on  (by with_unfolding_all rfl) ?_)) | (go_at_call 25; refine (take_bx _ pb c 2 a2 c2 bs [] (hI.sat _ (by (first | with_reducible exact mm0 | with_reducible exact mm1 | with_reducible exact mm2 | with_reducible exact mm3 | with_reducible exact mm4 | with_reducible exact mm5 | with_reducible exact mm6 | with_reducible exact mm7 | with_reducible exact mm8 | with_reducible exact mm9))) (hI.nd (by (first | with_reducible exact mm0 | with_reducible exact mm1 | with_reducible exact mm2 | with_reducible exact mm3 | with_reducible exact mm4 | with_reducible exact mm5 | with_reducible exact mm6 | with_reducible exact mm7 | with_reducible exact mm8 | with_reducible exact mm9)))).mono ?_; rintro e w1 ⟨rfl, hJ⟩; replace hI := hI.on2 hJ (by (first | with_reducible exact uu0 | with_reducible exact uu1 | with_reducible exact uu2 | with_reducible exact uu3 | with_reducible exact uu4 | with_reducible exact uu5 | with_reducible exact uu6 | with_reducible exact uu7 | with_reducible exact uu8 | with_reducible exact uu9)); clear hJ))
      go_ret
      exact ⟨rfl, hI.below⟩
theorem keeps_args (w : World) (a : Option Addr) (c : Nat) (b : List UInt8) (z : Int) (h : ByArg w a c b) :
    Calls Try.prog 8 #[.slice a b.length c, .int .u8 z] w fun e w' => e = .returned (.bool true) ∧ Below w.heap.size w w' :=
  keeps_walk w a c b z (rd_of_bys h.bys)
end Go.Proofs.Ytckoiabainpamaa
