/-
  The law ViewFew. No condition.
-/
import Derived.Test.YtaeapoidigglnaaFewLaw
import Derived.Test.YtaeapoidigglnaaMapI
import Derived.Test.YtaeapoidigglnaaNum
namespace Go.Proofs.Ytaeapoidigglnaa
open Go.RowKit
set_option maxRecDepth 100000
theorem mt72 : MapT Try.prog 72 3 4 := ⟨by kernel_rfl, by kernel_rfl⟩
section
variable {P : Program} {ops : Array Oper} {Q : Exit → Act → World → Prop} {a : Act} {rest : List Oper} {T : List Nat} {w0 w : World} {m : List Res} {dst : Option Tmp} {ty : TypeId} {pos : String} {af : Array Edge}
theorem wpList_lookup_as {x y : Operand} {t kt et : TypeId} {r : Nat} {f : Int → Option Value} {z u : Value} {j : Int} (hI : Inv T w0 w m) (hx : a.eval x = .map (some r)) (hy : a.eval y = .int .i64 j) (hm : mpr r f ∈ m) (hT : MapT P t kt et) (hz : (P.info? et).map (·.zero) = some (some z)) (hu : (f j).getD z = u)
    (k : wpList P ops Q rest (a.put dst u) w) : wpList P ops Q (⟨dst, .lookup t x y false, ty, pos, af, none⟩ :: rest) a w :=
  wpList_lookup hI hx hy hm hT hz (by rw [if_neg (by decide), hu]; exact k)
end
theorem zero4 : (Try.prog.info? 4).map (·.zero) = some (some (.bool false)) := by kernel_rfl
theorem set_len (w0 : World) (x : Int) (q : Nat) (h : (setTo x 5).length = q) : Calls Try.prog 24 #[.int .i64 x] w0 fun e w' => ∃ a c, e = .returned (.slice a q c) ∧ Below w0.heap.size w0 w' := by
  subst h
  exact (set_any w0 x).mono fun e w' ⟨a, c, he, hJ⟩ => ⟨a, c, he, hJ.below⟩
theorem nmf {T : List Nat} {w0 w : World} {a b : Nat} {e2 : TypeId} {f : Int → Option Value} {z2 : List Int} (_ : Inv T w0 w [mpr a f, ib b e2 z2]) : ∃ a' b', a' = a ∧ b' = b := ⟨a, b, rfl, rfl⟩
set_option maxHeartbeats 3200000 in
theorem few_walk (w0 : World) (a : Option Addr) (len c : Nat) (row : Nat → List Int) (h : IArg w0 a len 3 row) :
    Calls Try.prog 13 #[.slice a len c] w0 fun e w' => e = .returned (.bool true) ∧ Below w0.heap.size w0 w' := by
  have hI := Inv.start w0
  have l0 := h.reach
  have hfl : firstV.length = 7 := rfl
  by_cases hbig : len > 60
  · have hb : (60 : Int) < (len : Int) := by omega
    clear h
    go_enter Try.func13, Try.ntmps13
    go_wp2_with (first | ((with_reducible refine wpList_on  (by with_unfolding_all rfl) ?_)) | (go_at_call 36; refine (fit11 _).mono ?_; rintro e w1 ⟨rfl, hw1⟩; replace hI := hI.call hw1; clear hw1))
    go_ret
    exact ⟨rfl, hI.below⟩
  have hb : (len : Int) ≤ 60 := by omega
  have hagg := agg27
  go_enter Try.func13, Try.ntmps13
  go_upto_region 7 with (first | ((with_reducible refine wpList_on  (by with_unfolding_all rfl) ?_)) | (go_at_call 36; refine (fit11 _).mono ?_; rintro e w1 ⟨rfl, hw1⟩; replace hI := hI.call hw1; clear hw1) | (go_at_call 29; refine (first_any _).mono ?_; rintro e w1 ⟨rfl, hw1⟩; replace hI := hI.call hw1; clear hw1) | ((with_reducible refine wpList_alloc_ia hI (by first | with_reducible exact zi53 | with_reducible exact zi51 | with_reducible exact zi27 | with_reducible exact zi25) ?_); clear hI; intro bx w hI) | ((with_reducible refine wpList_store_iw hI (by with_unfolding_all rfl) (by with_unfolding_all rfl) (by first | with_reducible exact uu0 | with_reducible exact uu1 | with_reducible exact uu2 | with_reducible exact uu3 | with_reducible exact uu4 | with_reducible exact uu5 | with_reducible exact uu6 | with_reducible exact uu7 | with_reducible exact uu8 | with_reducible exact uu9) (by first | with_reducible exact agg53 | with_reducible exact agg51 | with_reducible exact agg27 | with_reducible exact agg25) (by (repeat (first | rw [List.length_set] | rw [nau_len] | rw [sub_len] | rw [spl_len])) <;> omega) (by (repeat (first | rw [List.length_set] | rw [nau_len] | rw [sub_len] | rw [spl_len])) <;> omega) ?_); clear hI; intro w hI) | ((with_reducible refine wpList_makeMap hI ?_); clear hI; intro r w hI))
  (try simp only [Act.put, List.setIfInBounds_toArray, List.set_cons_succ, List.set_cons_zero])
  obtain ⟨r4, b3, e4, e3⟩ := nmf hI
  subst e4 e3
  clear hb
  go_wp2_with fail
  go_loopg [6, 7, 8, 18] len (fun kk s6 s7 s8 i wr => ∃ (j : Nat) (v : List Int) (n : Int) (f : Int → Option Value), kk = len - j ∧ j ≤ len ∧ i = .int .i64 j ∧ Hid (Good v n ∧ n + stp v = 8 ∧ 1 ≤ n ∧ GoneOk v f) ∧ Inv [] w0 wr [mpr r4 f, ib b3 53 v])
  case atStart => exact ⟨0, _, 1, _, by omega, by omega, rfl, Lib.hid ⟨Good.first, by rw [stp_first]; omega, by omega, GoneOk.first⟩, hI⟩
  case round =>
    clear hI hfl
    obtain ⟨j, v, n, f, rfl, hj, rfl, hG, hI⟩ := hrel
    obtain ⟨g, hn8, hn1, hgo⟩ := hG.out
    have hs0 := stp_nonneg v
    have hl := g.len
    by_cases hlj : j < len
    · obtain ⟨hcl, hcr, bq, off, rfl, hcell⟩ := h.row j hlj
      have hl3 : ((row j).map (Value.int .i64)).length = 3 := by simpa using hcl
      have hagg : AggT Try.prog 27 ((row j).map (Value.int .i64)).length := by rw [hl3]; exact agg27
      have hw := Lib.hid (g.range (by omega) (by omega))
      have he0 : 0 ≤ gi v 0 := by rw [g.ep]; omega
      have he1 : gi v 0 < 9223372036854775807 := by rw [g.ep]; omega
      clear h hcr
      generalize row j = d at *
      cases h1 : okJ v d
      · cases h2 : okL v d
        · have hnx : Hid (nextF v d = (nau 7, 5)) := Lib.hid (by unfold nextF; rw [h1, h2]; rfl)
          have hn7 := nau_len 7
          clear g hgo h1 h2
          go_wp2_with (first | ((with_reducible refine wpList_on  (by with_unfolding_all rfl) ?_)) | (with_reducible refine wpList_load_arg hI (by with_unfolding_all rfl) hcell (by simp) (by with_unfolding_all exact hagg) ?_) | ((with_reducible refine wpList_alloc_ia hI (by first | with_reducible exact zi53 | with_reducible exact zi51 | with_reducible exact zi27 | with_reducible exact zi25) ?_); clear hI; intro bx w hI) | ((with_reducible refine wpList_store_iw hI (by with_unfolding_all rfl) (by with_unfolding_all rfl) (by first | with_reducible exact uu0 | with_reducible exact uu1 | with_reducible exact uu2 | with_reducible exact uu3 | with_reducible exact uu4 | with_reducible exact uu5 | with_reducible exact uu6 | with_reducible exact uu7 | with_reducible exact uu8 | with_reducible exact uu9) (by first | with_reducible exact agg53 | with_reducible exact agg51 | with_reducible exact agg27 | with_reducible exact agg25) (by (repeat (first | rw [List.length_set] | rw [nau_len] | rw [sub_len] | rw [spl_len])) <;> omega) (by (repeat (first | rw [List.length_set] | rw [nau_len] | rw [sub_len] | rw [spl_len])) <;> omega) ?_); clear hI; intro w hI) | ((with_reducible refine wpList_load_iw hI (by with_unfolding_all rfl) (by first | with_reducible exact mm0 | with_reducible exact mm1 | with_reducible exact mm2 | with_reducible exact mm3 | with_reducible exact mm4 | with_reducible exact mm5 | with_reducible exact mm6 | with_reducible exact mm7 | with_reducible exact mm8 | with_reducible exact mm9) (by first | with_reducible exact agg53 | with_reducible exact agg51 | with_reducible exact agg27 | with_reducible exact agg25) (by (repeat (first | rw [List.length_set] | rw [nau_len] | rw [sub_len] | rw [spl_len])) <;> omega) ?_)) | (go_at_call 37; refine (next_any _ v _ hl hcl hw he0 he1).mono ?_; rw [hnx.out]; rintro e w1 ⟨rfl, hw1⟩; replace hI := hI.call hw1; clear hw1))
          go_roundg (len - (j + 1))
          case measure => omega
          case rel => exact ⟨j + 1, v, n, f, by omega, by omega, by go_num, hG, hI.sub (.cons _ (.cons _ (.refl _)))⟩
        · have hnx : Hid (nextF v d = (nextL v d, 0)) := Lib.hid (by unfold nextF; rw [if_neg (by rw [h1]; decide), if_pos h2])
          have g2 := g.leave h2
          have hG2 : Hid (Good (nextL v d) (n + 1) ∧ n + 1 + stp (nextL v d) = 8 ∧ 1 ≤ n + 1 ∧ GoneOk (nextL v d) (fun i => if i = gi d 1 then some (.bool true) else f i)) := Lib.hid ⟨g2, by rw [stp_leave g h2]; omega, by omega, hgo.leave g h2⟩
          have hq := set_some g2
          have hl2 := g2.len
          have hep2 := g2.ep
          have hep := g.ep
          obtain ⟨k, dd, _, _, _, ek0, _, _, _, _⟩ := okL_of h2
          have t3 : (gi d 0 == 0) = false := by simp [ek0]
          have t4 : (gi d 0 == 1) = true := by simp [ek0]
          clear g g2 hgo h1 h2 ek0
          generalize nextL v d = y at *
          obtain ⟨q, hq0⟩ : ∃ q, (setTo (gi y 1) 5).length = q := ⟨_, rfl⟩
          rw [hq0] at hq
          have hq1 := Lib.hid hq0
          have t5 : (gi y 0 != gi v 0 + 1) = false := by rw [hep2, hep]; simp
          have t6 : decide ((q : Int) < 1) = false := by simp; omega
          clear hq0 hep hep2
          go_wp2_with (first | ((with_reducible refine wpList_on  (by with_unfolding_all rfl) ?_)) | (with_reducible refine wpList_load_arg hI (by with_unfolding_all rfl) hcell (by simp) (by with_unfolding_all exact hagg) ?_) | ((with_reducible refine wpList_alloc_ia hI (by first | with_reducible exact zi53 | with_reducible exact zi51 | with_reducible exact zi27 | with_reducible exact zi25) ?_); clear hI; intro bx w hI) | ((with_reducible refine wpList_store_iw hI (by with_unfolding_all rfl) (by with_unfolding_all rfl) (by first | with_reducible exact uu0 | with_reducible exact uu1 | with_reducible exact uu2 | with_reducible exact uu3 | with_reducible exact uu4 | with_reducible exact uu5 | with_reducible exact uu6 | with_reducible exact uu7 | with_reducible exact uu8 | with_reducible exact uu9) (by first | with_reducible exact agg53 | with_reducible exact agg51 | with_reducible exact agg27 | with_reducible exact agg25) (by (repeat (first | rw [List.length_set] | rw [nau_len] | rw [sub_len] | rw [spl_len])) <;> omega) (by (repeat (first | rw [List.length_set] | rw [nau_len] | rw [sub_len] | rw [spl_len])) <;> omega) ?_); clear hI; intro w hI) | ((with_reducible refine wpList_load_iw hI (by with_unfolding_all rfl) (by first | with_reducible exact mm0 | with_reducible exact mm1 | with_reducible exact mm2 | with_reducible exact mm3 | with_reducible exact mm4 | with_reducible exact mm5 | with_reducible exact mm6 | with_reducible exact mm7 | with_reducible exact mm8 | with_reducible exact mm9) (by first | with_reducible exact agg53 | with_reducible exact agg51 | with_reducible exact agg27 | with_reducible exact agg25) (by (repeat (first | rw [List.length_set] | rw [nau_len] | rw [sub_len] | rw [spl_len])) <;> omega) ?_)) | ((with_reducible refine wpList_load_i1 hI (by with_unfolding_all rfl) (by first | with_reducible exact mm0 | with_reducible exact mm1 | with_reducible exact mm2 | with_reducible exact mm3 | with_reducible exact mm4 | with_reducible exact mm5 | with_reducible exact mm6 | with_reducible exact mm7 | with_reducible exact mm8 | with_reducible exact mm9) (by first | with_reducible exact one3 | with_reducible exact one4 | with_reducible exact one40) (by (repeat (first | rw [List.length_set] | rw [nau_len] | rw [sub_len] | rw [spl_len])) <;> omega) ?_)) | (go_at_call 37; refine (next_any _ v _ hl hcl hw he0 he1).mono ?_; rw [hnx.out]; rintro e w1 ⟨rfl, hw1⟩; replace hI := hI.call hw1; clear hw1) | (go_at_call 24; (with_reducible refine (set_len _ _ q hq1.out).mono ?_); rintro e w1 ⟨aa, cc, rfl, hw1⟩; replace hI := hI.call hw1; clear hw1) | ((with_reducible refine wpList_mapUpdate hI (by with_unfolding_all rfl) (by with_unfolding_all rfl) (by with_unfolding_all rfl) mt72 (by (first | with_reducible exact uu0 | with_reducible exact uu1 | with_reducible exact uu2 | with_reducible exact uu3 | with_reducible exact uu4 | with_reducible exact uu5 | with_reducible exact uu6 | with_reducible exact uu7 | with_reducible exact uu8 | with_reducible exact uu9)) ?_); clear hI; intro w hI))
          go_roundg (len - (j + 1))
          case measure => omega
          case rel => exact ⟨j + 1, y, n + 1, _, by omega, by omega, by go_num, hG2, hI.sub (.cons _ (.cons _ (.refl _)))⟩
      · have hnx : Hid (nextF v d = (nextJ v d, 0)) := Lib.hid (by unfold nextF; rw [if_pos h1])
        have g2 := g.join h1
        obtain ⟨hgo2, hfn⟩ := hgo.join g h1
        have hG2 : Hid (Good (nextJ v d) (n + 1) ∧ n + 1 + stp (nextJ v d) = 8 ∧ 1 ≤ n + 1 ∧ GoneOk (nextJ v d) f) := Lib.hid ⟨g2, by rw [stp_join g h1]; omega, by omega, hgo2⟩
        have hq := set_some g2
        have hl2 := g2.len
        have hep2 := g2.ep
        have hep := g.ep
        obtain ⟨k, dd, _, _, ek0, _, _, _, _⟩ := okJ_of h1
        have t3 : (gi d 0 == 0) = true := by simp [ek0]
        have t4 : (gi d 0 == 1) = false := by simp [ek0]
        have hfn2 : (f (gi d 1)).getD (Value.bool false) = .bool false := by rw [hfn]; rfl
        clear g g2 hgo h1 ek0 hgo2 hfn
        generalize nextJ v d = y at *
        obtain ⟨q, hq0⟩ : ∃ q, (setTo (gi y 1) 5).length = q := ⟨_, rfl⟩
        rw [hq0] at hq
        have hq1 := Lib.hid hq0
        have t5 : (gi y 0 != gi v 0 + 1) = false := by rw [hep2, hep]; simp
        have t6 : decide ((q : Int) < 1) = false := by simp; omega
        clear hq0 hep hep2
        go_wp2_with (first | ((with_reducible refine wpList_on  (by with_unfolding_all rfl) ?_)) | (with_reducible refine wpList_load_arg hI (by with_unfolding_all rfl) hcell (by simp) (by with_unfolding_all exact hagg) ?_) | ((with_reducible refine wpList_alloc_ia hI (by first | with_reducible exact zi53 | with_reducible exact zi51 | with_reducible exact zi27 | with_reducible exact zi25) ?_); clear hI; intro bx w hI) | ((with_reducible refine wpList_store_iw hI (by with_unfolding_all rfl) (by with_unfolding_all rfl) (by first | with_reducible exact uu0 | with_reducible exact uu1 | with_reducible exact uu2 | with_reducible exact uu3 | with_reducible exact uu4 | with_reducible exact uu5 | with_reducible exact uu6 | with_reducible exact uu7 | with_reducible exact uu8 | with_reducible exact uu9) (by first | with_reducible exact agg53 | with_reducible exact agg51 | with_reducible exact agg27 | with_reducible exact agg25) (by (repeat (first | rw [List.length_set] | rw [nau_len] | rw [sub_len] | rw [spl_len])) <;> omega) (by (repeat (first | rw [List.length_set] | rw [nau_len] | rw [sub_len] | rw [spl_len])) <;> omega) ?_); clear hI; intro w hI) | ((with_reducible refine wpList_load_iw hI (by with_unfolding_all rfl) (by first | with_reducible exact mm0 | with_reducible exact mm1 | with_reducible exact mm2 | with_reducible exact mm3 | with_reducible exact mm4 | with_reducible exact mm5 | with_reducible exact mm6 | with_reducible exact mm7 | with_reducible exact mm8 | with_reducible exact mm9) (by first | with_reducible exact agg53 | with_reducible exact agg51 | with_reducible exact agg27 | with_reducible exact agg25) (by (repeat (first | rw [List.length_set] | rw [nau_len] | rw [sub_len] | rw [spl_len])) <;> omega) ?_)) | ((with_reducible refine wpList_load_i1 hI (by with_unfolding_all rfl) (by first | with_reducible exact mm0 | with_reducible exact mm1 | with_reducible exact mm2 | with_reducible exact mm3 | with_reducible exact mm4 | with_reducible exact mm5 | with_reducible exact mm6 | with_reducible exact mm7 | with_reducible exact mm8 | with_reducible exact mm9) (by first | with_reducible exact one3 | with_reducible exact one4 | with_reducible exact one40) (by (repeat (first | rw [List.length_set] | rw [nau_len] | rw [sub_len] | rw [spl_len])) <;> omega) ?_)) | (go_at_call 37; refine (next_any _ v _ hl hcl hw he0 he1).mono ?_; rw [hnx.out]; rintro e w1 ⟨rfl, hw1⟩; replace hI := hI.call hw1; clear hw1) | (go_at_call 24; (with_reducible refine (set_len _ _ q hq1.out).mono ?_); rintro e w1 ⟨aa, cc, rfl, hw1⟩; replace hI := hI.call hw1; clear hw1) | (with_reducible refine wpList_lookup_as hI (by with_unfolding_all rfl) (by with_unfolding_all rfl) (by (first | with_reducible exact mm0 | with_reducible exact mm1 | with_reducible exact mm2 | with_reducible exact mm3 | with_reducible exact mm4 | with_reducible exact mm5 | with_reducible exact mm6 | with_reducible exact mm7 | with_reducible exact mm8 | with_reducible exact mm9)) mt72 zero4 hfn2 ?_) | ((with_reducible refine wpList_mapUpdate hI (by with_unfolding_all rfl) (by with_unfolding_all rfl) (by with_unfolding_all rfl) mt72 (by (first | with_reducible exact uu0 | with_reducible exact uu1 | with_reducible exact uu2 | with_reducible exact uu3 | with_reducible exact uu4 | with_reducible exact uu5 | with_reducible exact uu6 | with_reducible exact uu7 | with_reducible exact uu8 | with_reducible exact uu9)) ?_); clear hI; intro w hI))
        go_roundg (len - (j + 1))
        case measure => omega
        case rel => exact ⟨j + 1, y, n + 1, _, by omega, by omega, by go_num, hG2, hI.sub (.cons _ (.cons _ (.refl _)))⟩
    · obtain rfl : j = len := by omega
      have hq := set_some g
      have hep := g.ep
      clear h g hgo
      obtain ⟨q, hq0⟩ : ∃ q, (setTo (gi v 1) 5).length = q := ⟨_, rfl⟩
      rw [hq0] at hq
      have hq1 := Lib.hid hq0
      have t5 : decide (gi v 0 ≤ 8) = true := by simp; omega
      have t6 : decide ((1 : Int) ≤ (q : Int)) = true := by simp; omega
      clear hq0 hep
      go_wp2_with (first | ((with_reducible refine wpList_on  (by with_unfolding_all rfl) ?_)) | ((with_reducible refine wpList_load_i1 hI (by with_unfolding_all rfl) (by first | with_reducible exact mm0 | with_reducible exact mm1 | with_reducible exact mm2 | with_reducible exact mm3 | with_reducible exact mm4 | with_reducible exact mm5 | with_reducible exact mm6 | with_reducible exact mm7 | with_reducible exact mm8 | with_reducible exact mm9) (by first | with_reducible exact one3 | with_reducible exact one4 | with_reducible exact one40) (by (repeat (first | rw [List.length_set] | rw [nau_len] | rw [sub_len] | rw [spl_len])) <;> omega) ?_)) | (go_at_call 24; (with_reducible refine (set_len _ _ q hq1.out).mono ?_); rintro e w1 ⟨aa, cc, rfl, hw1⟩; replace hI := hI.call hw1; clear hw1))
      go_ret
      exact ⟨rfl, hI.below⟩
theorem few_cells (w0 : World) (a : Option Addr) (len c : Nat) (row : Nat → List Value) (h : SlArg w0 a len c (List.replicate 3 pInt) row) :
    Calls Try.prog 13 #[.slice a len c] w0 fun e w' => e = .returned (.bool true) ∧ Below w0.heap.size w0 w' := by
  obtain ⟨r, hr⟩ := h.ints
  exact few_walk w0 a len c r hr
end Go.Proofs.Ytaeapoidigglnaa
