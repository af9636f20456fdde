/-
  The contract of book.Rights. No condition but that the rows may be.
-/
import Derived.Test.YthncfjfgjdeajaaBook2
namespace Go.Proofs.Ythncfjfgjdeajaa
open Go.RowKit
set_option maxRecDepth 100000
theorem own_val (w0 : World) (x : List Int) (who : Int) (L : List Int) (hx : x.length = 174) (hL : Hid (ownTo x who 5 = L)) : Calls Try.prog 21 #[ia x, .int .i64 who] w0 fun e w' =>
    ∃ a c, e = .returned (.slice a L.length c) ∧ Inv [] w0 w' [osl 3 1 (.slice a L.length c) L.length (L.map (Value.int .i64))] := by
  have := own_any w0 x who hx
  rwa [hL.out] at this
/-- a machine's rights -/
def rightsF (m : List Int) (who key : Int) : Int := if machB who = true then rTo (allC m key 5) (ownTo (sub m (who.toNat * 174) 174) who 5) (ownTo (sub m (who.toNat * 174) 174) who 5).length else 0
theorem nmw {T : List Nat} {w0 w : World} {a b : Nat} {e1 e2 : TypeId} {z1 z2 : List Int} {r : Res} (_ : Inv T w0 w [r, ib a e1 z1, ib b e2 z2]) : ∃ a', a' = a := ⟨a, rfl⟩
set_option maxHeartbeats 3200000 in
theorem rights_any (w0 : World) (b : Nat) (e0 : TypeId) (m : List Int) (hk0 : Bk m) (hb : w0.heap[b]? = some (.cells (m.map (Value.int .i64)).toArray e0 (0, 0))) (who key : Int) :
    Calls Try.prog 33 #[.pointer (some ⟨b, 0, none⟩), .int .i64 who, .int .i64 key] w0 fun e w' => e = .returned (.int .i64 (rightsF m who key)) ∧ Step [b] w0 w' ∧ w'.heap[b]? = some (.cells (m.map (Value.int .i64)).toArray e0 (0, 0)) := by
  have hI := takeI hb
  have hml := hk0.len
  have hk := Lib.hid hk0
  clear hk0
  cases hm : machB who
  · rw [show rightsF m who key = 0 from by simp [rightsF, hm]]
    go_enter Try.func33, Try.ntmps33
    go_wp2_with (first | (go_at_call 49; refine (mach49_any _ _).mono ?_; rintro e w1 ⟨rfl, hw1⟩; rw [hw1]; clear hw1))
    go_ret
    exact ⟨rfl, hI.end_, hI.ibk (by (first | with_reducible exact mm0 | with_reducible exact mm1 | with_reducible exact mm2 | with_reducible exact mm3 | with_reducible exact mm4 | with_reducible exact mm5 | with_reducible exact mm6 | with_reducible exact mm7 | with_reducible exact mm8 | with_reducible exact mm9))⟩
  obtain ⟨h0, h5⟩ := mach_of hm
  obtain ⟨p, rfl⟩ : ∃ p : Nat, who = p := ⟨who.toNat, by omega⟩
  have hp5 : p < 5 := by omega
  have hpn : (p : Int).toNat = p := by simp
  have hxl : (sub m (p * 174) 174).length = 174 := by rw [sub_len]; omega
  have hres : Hid (rightsF m p key = rTo (allC m key 5) (ownTo (sub m (p * 174) 174) p 5) (ownTo (sub m (p * 174) 174) p 5).length) := Lib.hid (by unfold rightsF; rw [if_pos hm, hpn])
  have hLm := Lib.hid (ownTo_mem (sub m (p * 174) 174) p)
  have hLl : Hid ((ownTo (sub m (p * 174) 174) p 5).length ≤ 5) := Lib.hid (ownTo_len _ _ _)
  obtain ⟨L, hL0⟩ : ∃ L, L = ownTo (sub m (p * 174) 174) p 5 := ⟨_, rfl⟩
  rw [← hL0] at hres hLm hLl
  have hL := Lib.hid hL0.symm
  clear hL0
  have hcl := Lib.hid (allC_len hk.out key)
  have hcn := Lib.hid (allC_num hk.out key)
  go_enter Try.func33, Try.ntmps33
  go_upto_region 4 with (first | (go_at_call 49; refine (mach49_any _ _).mono ?_; rintro e w1 ⟨rfl, hw1⟩; rw [hw1]; clear hw1) | ((with_reducible refine wpList_alloc_ia hI (by first | with_reducible exact zi22 | with_reducible exact zi24 | with_reducible exact zi25 | with_reducible exact zi26 | with_reducible exact zi28 | with_reducible exact zi73 | with_reducible exact zi84) ?_); clear hI; intro bx w hI))
  (try simp only [Act.put, List.setIfInBounds_toArray, List.set_cons_succ, List.set_cons_zero])
  (obtain ⟨b7, hbx⟩ : ∃ b, b = bx := ⟨_, rfl⟩; subst hbx)
  go_wp2_with fail
  go_loopg [8, 16] 5 (fun kk s8 i wr => ∃ j : Nat, kk = 5 - j ∧ j ≤ 5 ∧ i = .int .i64 j ∧ Inv [b] w0 wr [ib b7 84 (allC m key j), ib b e0 m])
  case atStart => exact ⟨0, rfl, by omega, rfl, hI⟩
  case round =>
    clear hI
    obtain ⟨j, rfl, hj, rfl, hI⟩ := hrel
    by_cases hj5 : j < 5
    · have hs : Hid (allC m key (j + 1) = spl (allC m key j) (j * 7) (bCell m j key)) := Lib.hid rfl
      have hl := hcl.out j hj
      obtain ⟨cl, _⟩ := bCell_num hk.out j key
      obtain ⟨c, hc⟩ : ∃ c, c = bCell m j key := ⟨_, rfl⟩
      rw [← hc] at hs cl
      have hcv := Lib.hid hc.symm
      have hnat : (j : Int).toNat = j := by simp
      clear hc
      generalize allC m key j = cs at *
      go_wp2_with (first | ((with_reducible refine wpList_store_ia hI (by with_unfolding_all rfl) (by with_unfolding_all rfl) (by first | with_reducible exact uu0 | with_reducible exact uu1 | with_reducible exact uu2 | with_reducible exact uu3 | with_reducible exact uu4 | with_reducible exact uu5 | with_reducible exact uu6 | with_reducible exact uu7 | with_reducible exact uu8 | with_reducible exact uu9) (by first | with_reducible exact agg22 | with_reducible exact agg24 | with_reducible exact agg25 | with_reducible exact agg26 | with_reducible exact agg28 | with_reducible exact agg73 | with_reducible exact agg84) (by (repeat (first | rw [List.length_set] | rw [nau_len] | rw [sub_len] | rw [spl_len])) <;> omega) (by (repeat (first | rw [List.length_set] | rw [nau_len] | rw [sub_len] | rw [spl_len])) <;> omega) ?_); clear hI; intro w hI) | (go_at_call 34; (with_reducible refine (bcell_any _ b e0 m hk.out (hI.ibk (by (first | with_reducible exact mm0 | with_reducible exact mm1 | with_reducible exact mm2 | with_reducible exact mm3 | with_reducible exact mm4 | with_reducible exact mm5 | with_reducible exact mm6 | with_reducible exact mm7 | with_reducible exact mm8 | with_reducible exact mm9))) _ _).mono ?_); rw [hcv.out]; rintro e w1 ⟨rfl, hst, hbk⟩; replace hI := hI.icall (by (first | with_reducible exact uu0 | with_reducible exact uu1 | with_reducible exact uu2 | with_reducible exact uu3 | with_reducible exact uu4 | with_reducible exact uu5 | with_reducible exact uu6 | with_reducible exact uu7 | with_reducible exact uu8 | with_reducible exact uu9)) hst hbk; clear hst hbk))
      go_roundg (5 - (j + 1))
      case measure => omega
      case rel => exact ⟨j + 1, rfl, by omega, by go_num, by rw [hs.out]; exact hI⟩
    · obtain rfl : j = 5 := by omega
      have hl := hcl.out 5 (by omega)
      have hn := Lib.hid (hcn.out 5 (by omega))
      clear hcl hcn
      generalize allC m key 5 = cs at *
      go_upto_region 11 with (first | ((with_reducible refine wpList_load_ia hI (by with_unfolding_all rfl) (by first | with_reducible exact mm0 | with_reducible exact mm1 | with_reducible exact mm2 | with_reducible exact mm3 | with_reducible exact mm4 | with_reducible exact mm5 | with_reducible exact mm6 | with_reducible exact mm7 | with_reducible exact mm8 | with_reducible exact mm9) (by first | with_reducible exact agg22 | with_reducible exact agg24 | with_reducible exact agg25 | with_reducible exact agg26 | with_reducible exact agg28 | with_reducible exact agg73 | with_reducible exact agg84) (by (repeat (first | rw [List.length_set] | rw [nau_len] | rw [sub_len] | rw [spl_len])) <;> omega) ?_)) | (go_at_call 21; (with_reducible refine (own_val _ (sub m (p * 174) 174) p L hxl hL).mono ?_); rintro e w1 ⟨ao, co, rfl, hJ⟩; replace hI := hI.seq hJ; simp only [List.cons_append, List.nil_append] at hI; clear hJ))
      (try simp only [Act.put, List.setIfInBounds_toArray, List.set_cons_succ, List.set_cons_zero])
      go_loopg [9, 11, 12, 35] L.length (fun kk s9 s11 s12 i wr => ∃ j : Nat, kk = L.length - j ∧ j ≤ L.length ∧ i = .int .i64 j ∧ s9 = .int .i64 (rTo cs L j) ∧ Inv [b] w0 wr [osl 3 1 (.slice ao L.length co) L.length (L.map (Value.int .i64)), ib b7 84 cs, ib b e0 m])
      case atStart => exact ⟨0, by omega, by omega, rfl, rfl, hI⟩
      case round =>
        clear hI
        obtain ⟨j, rfl, hj, rfl, rfl, hI⟩ := hrel
        obtain ⟨v0, v1⟩ := rTo_bound hn.out L j
        have hLl5 := hLl.out
        have u0 : -32985348833280 ≤ rTo cs L j := by omega
        have u1 : rTo cs L j ≤ 32985348833280 := by omega
        clear v0 v1
        by_cases hlj : j < L.length
        · obtain ⟨o0, o5⟩ := hLm.out _ (gi_mem L j hlj)
          obtain ⟨o, ho⟩ : ∃ o : Nat, gi L j = o := ⟨(gi L j).toNat, by omega⟩
          obtain ⟨gb, go_, hab, hcell⟩ := (hI.rd (a' := ao) mm0) j (.int .i64 (gi L j)) (by rw [List.getElem?_map]; simp [gi, hlj])
          subst hab
          rw [ho] at hcell o0 o5
          have ho5 : o < 5 := by omega
          have hon : (o : Int).toNat = o := by simp
          have hs : Hid (rTo cs L (j + 1) = rTo cs L j + (gi cs (o * 7) - gi cs (o * 7 + 1)) + rIn cs o 5) := Lib.hid (by rw [rTo, ho, hon])
          obtain ⟨c0, c1⟩ := hn.out (o * 7)
          obtain ⟨c2, c3⟩ := hn.out (o * 7 + 1)
          clear ho
          generalize rTo cs L j = s at *
          go_upto_region 13 with fail
          (try simp only [Act.put, List.setIfInBounds_toArray, List.set_cons_succ, List.set_cons_zero])
          have hd1 := ib_cell hI (i := o * 7) mm1 (by omega)
          have hd2 := ib_cell hI (i := o * 7 + 1) mm1 (by omega)
          clear hcell
          go_quiet (fail)
          clear hd1 hd2
          replace hI := hI.call (bdn wr nq)
          generalize wr.drewN nq = wq at *
          have y0 : -43980465111040 ≤ s + (gi cs (o * 7) - gi cs (o * 7 + 1)) := by omega
          have y1 : s + (gi cs (o * 7) - gi cs (o * 7 + 1)) ≤ 43980465111040 := by omega
          clear u0 u1 c0 c1 c2 c3
          generalize s + (gi cs (o * 7) - gi cs (o * 7 + 1)) = s1 at *
          go_wp2_with fail
          go_loopg [9, 12, 50] 5 (fun kk s9 s12 i wx => ∃ l : Nat, kk = 5 - l ∧ l ≤ 5 ∧ i = .int .i64 l ∧ s9 = .int .i64 (s1 + rIn cs o l) ∧ Inv [b] w0 wx [osl 3 1 (.slice (some ⟨gb, go_, none⟩) L.length co) L.length (L.map (Value.int .i64)), ib b7 84 cs, ib b e0 m])
          case atStart => exact ⟨0, rfl, by omega, rfl, by unfold rIn; rw [Int.add_zero], hI⟩
          case round =>
            clear hI
            obtain ⟨l, rfl, hl5, rfl, rfl, hI⟩ := hrel
            by_cases hll : l < 5
            · have hln : (l : Int).toNat = l := by simp
              have hll5 : (l : Int) < 5 := by omega
              have ht : Hid (rIn cs o (l + 1) = rIn cs o l + (gi cs (l * 7 + 2 + o) - gi cs (o * 7 + 2 + l))) := Lib.hid rfl
              obtain ⟨b0, b1⟩ := rIn_bound hn.out o l
              have z0 : -5497558138880 ≤ rIn cs o l := by omega
              have z1 : rIn cs o l ≤ 5497558138880 := by omega
              obtain ⟨c0, c1⟩ := hn.out (l * 7 + 2 + o)
              obtain ⟨c2, c3⟩ := hn.out (o * 7 + 2 + l)
              clear b0 b1
              generalize rIn cs o l = t at *
              go_upto_region 17 with fail
              (try simp only [Act.put, List.setIfInBounds_toArray, List.set_cons_succ, List.set_cons_zero])
              have hd1 := ib_cell hI (i := l * 7 + 2 + o) mm1 (by omega)
              have hd2 := ib_cell hI (i := o * 7 + 2 + l) mm1 (by omega)
              go_quiet (fail)
              clear hd1 hd2
              replace hI := hI.call (bdn _ nq)
              go_wp2_with fail
              go_roundg (5 - (l + 1))
              case measure => omega
              case rel => exact ⟨l + 1, rfl, by omega, by go_num, by rw [ht.out, ← Int.add_assoc], hI⟩
            · obtain rfl : l = 5 := by omega
              go_wp2_with fail
              go_roundg (L.length - (j + 1))
              case measure => omega
              case rel => exact ⟨j + 1, by omega, by omega, by go_num, by rw [hs.out], hI⟩
        · obtain rfl : j = L.length := by omega
          go_wp2_with fail
          go_ret
          rw [hres.out]
          exact ⟨rfl, hI.end_, hI.ibk (by (first | with_reducible exact mm0 | with_reducible exact mm1 | with_reducible exact mm2 | with_reducible exact mm3 | with_reducible exact mm4 | with_reducible exact mm5 | with_reducible exact mm6 | with_reducible exact mm7 | with_reducible exact mm8 | with_reducible exact mm9))⟩
end Go.Proofs.Ythncfjfgjdeajaa
