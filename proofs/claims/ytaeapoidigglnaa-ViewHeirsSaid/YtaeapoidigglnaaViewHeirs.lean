/-
  The law ViewHeirs. No condition.
-/
import Derived.Test.YtaeapoidigglnaaHeirLaw
import Derived.Test.YtaeapoidigglnaaMapI
namespace Go.Proofs.Ytaeapoidigglnaa
open Go.RowKit
set_option maxRecDepth 100000
theorem mt65 : MapT Try.prog 65 3 3 := ⟨by kernel_rfl, by kernel_rfl⟩
theorem zero3 : (Try.prog.info? 3).map (·.zero) = some (some (.int .i64 0)) := by kernel_rfl
section
variable {P : Program} {ops : Array Oper} {Q : Exit → Act → World → Prop} {a : Act} {rest : List Oper} {T : List Nat} {w0 w : World} {m : List Res} {dst : Option Tmp} {ty : TypeId} {pos : String} {af : Array Edge}
theorem wpList_lookup_ok {x y : Operand} {t kt et : TypeId} {r : Nat} {f : Int → Option Value} {z u : Value} {s : Bool} {j : Int} (hI : Inv T w0 w m) (hx : a.eval x = .map (some r)) (hy : a.eval y = .int .i64 j) (hm : mpr r f ∈ m) (hT : MapT P t kt et) (hz : (P.info? et).map (·.zero) = some (some z)) (hu : (f j).getD z = u) (hs : (f j).isSome = s)
    (k : wpList P ops Q rest (a.put dst (.tuple #[u, .bool s])) w) : wpList P ops Q (⟨dst, .lookup t x y true, ty, pos, af, none⟩ :: rest) a w :=
  wpList_lookup hI hx hy hm hT hz (by rw [if_pos rfl, hu, hs]; exact k)
end
theorem nmh {T : List Nat} {w0 w : World} {a b : Nat} {e2 : TypeId} {f : Int → Option Value} {z2 : List Int} (_ : Inv T w0 w [mpr a f, ib b e2 z2]) : ∃ a' b', a' = a ∧ b' = b := ⟨a, b, rfl, rfl⟩
set_option maxHeartbeats 3200000 in
theorem heirs_walk (w0 : World) (a : Option Addr) (len c : Nat) (row : Nat → List Int) (h : IArg w0 a len 3 row) :
    Calls Try.prog 12 #[.slice a len c] w0 fun e w' => e = .returned (.bool true) ∧ Below w0.heap.size w0 w' := by
  have hI := Inv.start w0
  have l0 := h.reach
  have hfl : firstV.length = 7 := rfl
  by_cases hbig : len > 40
  · have hb : (40 : Int) < (len : Int) := by omega
    clear h
    go_enter Try.func12, Try.ntmps12
    go_wp2_with (first | ((with_reducible refine wpList_on  (by with_unfolding_all rfl) ?_)) | (go_at_call 36; refine (fit11 _).mono ?_; rintro e w1 ⟨rfl, hw1⟩; replace hI := hI.call hw1; clear hw1))
    go_ret
    exact ⟨rfl, hI.below⟩
  have hb : (len : Int) ≤ 40 := by omega
  have hlen40 : len ≤ 40 := by omega
  have hagg := agg27
  go_enter Try.func12, Try.ntmps12
  go_upto_region 7 with (first | ((with_reducible refine wpList_on  (by with_unfolding_all rfl) ?_)) | (go_at_call 36; refine (fit11 _).mono ?_; rintro e w1 ⟨rfl, hw1⟩; replace hI := hI.call hw1; clear hw1) | (go_at_call 29; refine (first_any _).mono ?_; rintro e w1 ⟨rfl, hw1⟩; replace hI := hI.call hw1; clear hw1) | ((with_reducible refine wpList_alloc_ia hI (by first | with_reducible exact zi53 | with_reducible exact zi51 | with_reducible exact zi27 | with_reducible exact zi25) ?_); clear hI; intro bx w hI) | ((with_reducible refine wpList_store_iw hI (by with_unfolding_all rfl) (by with_unfolding_all rfl) (by first | with_reducible exact uu0 | with_reducible exact uu1 | with_reducible exact uu2 | with_reducible exact uu3 | with_reducible exact uu4 | with_reducible exact uu5 | with_reducible exact uu6 | with_reducible exact uu7 | with_reducible exact uu8 | with_reducible exact uu9) (by first | with_reducible exact agg53 | with_reducible exact agg51 | with_reducible exact agg27 | with_reducible exact agg25) (by (repeat (first | rw [List.length_set] | rw [nau_len] | rw [sub_len] | rw [spl_len])) <;> omega) (by (repeat (first | rw [List.length_set] | rw [nau_len] | rw [sub_len] | rw [spl_len])) <;> omega) ?_); clear hI; intro w hI) | ((with_reducible refine wpList_makeMap hI ?_); clear hI; intro r w hI))
  (try simp only [Act.put, List.setIfInBounds_toArray, List.set_cons_succ, List.set_cons_zero])
  obtain ⟨r4, b3, e4, e3⟩ := nmh hI
  subst e4 e3
  clear hb
  go_wp2_with fail
  go_loopg [6, 7, 8, 25] len (fun kk s6 s7 s8 i wr => ∃ (j : Nat) (v : List Int) (n : Int) (f : Int → Option Value), kk = len - j ∧ j ≤ len ∧ i = .int .i64 j ∧ Hid (Good v n ∧ 1 ≤ n ∧ n ≤ j + 1 ∧ ∃ rank N, Left v f rank N) ∧ Inv [] w0 wr [mpr r4 f, ib b3 53 v])
  case atStart => exact ⟨0, _, 1, _, by omega, by omega, rfl, Lib.hid ⟨Good.first, by omega, by omega, _, _, Left.first⟩, hI⟩
  case round =>
    clear hI hfl
    obtain ⟨j, v, n, f, rfl, hj, rfl, hG, hI⟩ := hrel
    obtain ⟨g, hn1, hn8, rank, N, hlf⟩ := hG.out
    have hl := g.len
    have hw := Lib.hid (g.range (by omega) (by omega))
    by_cases hlj : j < len
    · obtain ⟨hcl, hcr, bq, off, rfl, hcell⟩ := h.row j hlj
      have hl3 : ((row j).map (Value.int .i64)).length = 3 := by simpa using hcl
      have hagg : AggT Try.prog 27 ((row j).map (Value.int .i64)).length := by rw [hl3]; exact agg27
      have he0 : 0 ≤ gi v 0 := by rw [g.ep]; omega
      have he1 : gi v 0 < 9223372036854775807 := by rw [g.ep]; omega
      clear h hcr
      generalize row j = d at *
      cases h1 : okJ v d
      · cases h2 : okL v d
        · have hnx : Hid (nextF v d = (nau 7, 5)) := Lib.hid (by unfold nextF; rw [h1, h2]; rfl)
          have hn7 := nau_len 7
          have hG2 : Hid (Good v n ∧ 1 ≤ n ∧ n ≤ ((j + 1 : Nat) : Int) + 1 ∧ ∃ rank N, Left v f rank N) := Lib.hid ⟨g, hn1, by omega, rank, N, hlf⟩
          clear g hlf h1 h2 hG
          go_wp2_with (first | ((with_reducible refine wpList_on  (by with_unfolding_all rfl) ?_)) | (with_reducible refine wpList_load_arg hI (by with_unfolding_all rfl) hcell (by simp) (by with_unfolding_all exact hagg) ?_) | ((with_reducible refine wpList_alloc_ia hI (by first | with_reducible exact zi53 | with_reducible exact zi51 | with_reducible exact zi27 | with_reducible exact zi25) ?_); clear hI; intro bx w hI) | ((with_reducible refine wpList_store_iw hI (by with_unfolding_all rfl) (by with_unfolding_all rfl) (by first | with_reducible exact uu0 | with_reducible exact uu1 | with_reducible exact uu2 | with_reducible exact uu3 | with_reducible exact uu4 | with_reducible exact uu5 | with_reducible exact uu6 | with_reducible exact uu7 | with_reducible exact uu8 | with_reducible exact uu9) (by first | with_reducible exact agg53 | with_reducible exact agg51 | with_reducible exact agg27 | with_reducible exact agg25) (by (repeat (first | rw [List.length_set] | rw [nau_len] | rw [sub_len] | rw [spl_len])) <;> omega) (by (repeat (first | rw [List.length_set] | rw [nau_len] | rw [sub_len] | rw [spl_len])) <;> omega) ?_); clear hI; intro w hI) | ((with_reducible refine wpList_load_iw hI (by with_unfolding_all rfl) (by first | with_reducible exact mm0 | with_reducible exact mm1 | with_reducible exact mm2 | with_reducible exact mm3 | with_reducible exact mm4 | with_reducible exact mm5 | with_reducible exact mm6 | with_reducible exact mm7 | with_reducible exact mm8 | with_reducible exact mm9) (by first | with_reducible exact agg53 | with_reducible exact agg51 | with_reducible exact agg27 | with_reducible exact agg25) (by (repeat (first | rw [List.length_set] | rw [nau_len] | rw [sub_len] | rw [spl_len])) <;> omega) ?_)) | (go_at_call 37; refine (next_any _ v _ hl hcl hw he0 he1).mono ?_; rw [hnx.out]; rintro e w1 ⟨rfl, hw1⟩; replace hI := hI.call hw1; clear hw1))
          go_roundg (len - (j + 1))
          case measure => omega
          case rel => exact ⟨j + 1, v, n, f, by omega, by omega, by go_num, hG2, hI.sub (.cons _ (.cons _ (.refl _)))⟩
        · have hnx : Hid (nextF v d = (nextL v d, 0)) := Lib.hid (by unfold nextF; rw [if_neg (by rw [h1]; decide), if_pos h2])
          have g2 := g.leave h2
          obtain ⟨rank2, hlf2⟩ := hlf.leave g h2
          have hG2 : Hid (Good (nextL v d) (n + 1) ∧ 1 ≤ n + 1 ∧ n + 1 ≤ ((j + 1 : Nat) : Int) + 1 ∧ ∃ rank N, Left (nextL v d) (fun i => if i = gi d 1 then some (.int .i64 (gi d 2)) else f i) rank N) := Lib.hid ⟨g2, by omega, by omega, _, _, hlf2⟩
          have hl2 := g2.len
          obtain ⟨k, dd, c1, c2, c3, ek0, c4, c5, c6, c7⟩ := okL_of h2
          clear c1 c2 c3 c4 c5 c6 c7
          have t4 : (gi d 0 == 1) = true := by simp [ek0]
          clear g g2 hlf hlf2 h1 h2 ek0 hG
          generalize nextL v d = y at *
          go_wp2_with (first | ((with_reducible refine wpList_on  (by with_unfolding_all rfl) ?_)) | (with_reducible refine wpList_load_arg hI (by with_unfolding_all rfl) hcell (by simp) (by with_unfolding_all exact hagg) ?_) | ((with_reducible refine wpList_alloc_ia hI (by first | with_reducible exact zi53 | with_reducible exact zi51 | with_reducible exact zi27 | with_reducible exact zi25) ?_); clear hI; intro bx w hI) | ((with_reducible refine wpList_store_iw hI (by with_unfolding_all rfl) (by with_unfolding_all rfl) (by first | with_reducible exact uu0 | with_reducible exact uu1 | with_reducible exact uu2 | with_reducible exact uu3 | with_reducible exact uu4 | with_reducible exact uu5 | with_reducible exact uu6 | with_reducible exact uu7 | with_reducible exact uu8 | with_reducible exact uu9) (by first | with_reducible exact agg53 | with_reducible exact agg51 | with_reducible exact agg27 | with_reducible exact agg25) (by (repeat (first | rw [List.length_set] | rw [nau_len] | rw [sub_len] | rw [spl_len])) <;> omega) (by (repeat (first | rw [List.length_set] | rw [nau_len] | rw [sub_len] | rw [spl_len])) <;> omega) ?_); clear hI; intro w hI) | ((with_reducible refine wpList_load_iw hI (by with_unfolding_all rfl) (by first | with_reducible exact mm0 | with_reducible exact mm1 | with_reducible exact mm2 | with_reducible exact mm3 | with_reducible exact mm4 | with_reducible exact mm5 | with_reducible exact mm6 | with_reducible exact mm7 | with_reducible exact mm8 | with_reducible exact mm9) (by first | with_reducible exact agg53 | with_reducible exact agg51 | with_reducible exact agg27 | with_reducible exact agg25) (by (repeat (first | rw [List.length_set] | rw [nau_len] | rw [sub_len] | rw [spl_len])) <;> omega) ?_)) | ((with_reducible refine wpList_load_i1 hI (by with_unfolding_all rfl) (by first | with_reducible exact mm0 | with_reducible exact mm1 | with_reducible exact mm2 | with_reducible exact mm3 | with_reducible exact mm4 | with_reducible exact mm5 | with_reducible exact mm6 | with_reducible exact mm7 | with_reducible exact mm8 | with_reducible exact mm9) (by first | with_reducible exact one3 | with_reducible exact one4 | with_reducible exact one40) (by (repeat (first | rw [List.length_set] | rw [nau_len] | rw [sub_len] | rw [spl_len])) <;> omega) ?_)) | (go_at_call 37; refine (next_any _ v _ hl hcl hw he0 he1).mono ?_; rw [hnx.out]; rintro e w1 ⟨rfl, hw1⟩; replace hI := hI.call hw1; clear hw1) | ((with_reducible refine wpList_mapUpdate (v := .int .i64 (gi d 2)) (j := gi d 1) hI (by with_unfolding_all rfl) (by with_unfolding_all rfl) (by with_unfolding_all rfl) mt65 (by (first | with_reducible exact uu0 | with_reducible exact uu1 | with_reducible exact uu2 | with_reducible exact uu3 | with_reducible exact uu4 | with_reducible exact uu5 | with_reducible exact uu6 | with_reducible exact uu7 | with_reducible exact uu8 | with_reducible exact uu9)) ?_); clear hI; intro w hI))
          go_roundg (len - (j + 1))
          case measure => omega
          case rel => exact ⟨j + 1, y, n + 1, _, by omega, by omega, by go_num, hG2, hI.sub (.cons _ (.cons _ (.refl _)))⟩
      · have hnx : Hid (nextF v d = (nextJ v d, 0)) := Lib.hid (by unfold nextF; rw [if_pos h1])
        have g2 := g.join h1
        have hlf2 := hlf.join g h1
        have hG2 : Hid (Good (nextJ v d) (n + 1) ∧ 1 ≤ n + 1 ∧ n + 1 ≤ ((j + 1 : Nat) : Int) + 1 ∧ ∃ rank N, Left (nextJ v d) f rank N) := Lib.hid ⟨g2, by omega, by omega, _, _, hlf2⟩
        have hl2 := g2.len
        obtain ⟨k, dd, c1, c2, ek0, c3, c4, c5, c6⟩ := okJ_of h1
        clear c1 c2 c3 c4 c5 c6
        have t4 : (gi d 0 == 1) = false := by simp [ek0]
        clear g g2 hlf hlf2 h1 ek0 hG
        generalize nextJ v d = y at *
        go_wp2_with (first | ((with_reducible refine wpList_on  (by with_unfolding_all rfl) ?_)) | (with_reducible refine wpList_load_arg hI (by with_unfolding_all rfl) hcell (by simp) (by with_unfolding_all exact hagg) ?_) | ((with_reducible refine wpList_alloc_ia hI (by first | with_reducible exact zi53 | with_reducible exact zi51 | with_reducible exact zi27 | with_reducible exact zi25) ?_); clear hI; intro bx w hI) | ((with_reducible refine wpList_store_iw hI (by with_unfolding_all rfl) (by with_unfolding_all rfl) (by first | with_reducible exact uu0 | with_reducible exact uu1 | with_reducible exact uu2 | with_reducible exact uu3 | with_reducible exact uu4 | with_reducible exact uu5 | with_reducible exact uu6 | with_reducible exact uu7 | with_reducible exact uu8 | with_reducible exact uu9) (by first | with_reducible exact agg53 | with_reducible exact agg51 | with_reducible exact agg27 | with_reducible exact agg25) (by (repeat (first | rw [List.length_set] | rw [nau_len] | rw [sub_len] | rw [spl_len])) <;> omega) (by (repeat (first | rw [List.length_set] | rw [nau_len] | rw [sub_len] | rw [spl_len])) <;> omega) ?_); clear hI; intro w hI) | ((with_reducible refine wpList_load_iw hI (by with_unfolding_all rfl) (by first | with_reducible exact mm0 | with_reducible exact mm1 | with_reducible exact mm2 | with_reducible exact mm3 | with_reducible exact mm4 | with_reducible exact mm5 | with_reducible exact mm6 | with_reducible exact mm7 | with_reducible exact mm8 | with_reducible exact mm9) (by first | with_reducible exact agg53 | with_reducible exact agg51 | with_reducible exact agg27 | with_reducible exact agg25) (by (repeat (first | rw [List.length_set] | rw [nau_len] | rw [sub_len] | rw [spl_len])) <;> omega) ?_)) | ((with_reducible refine wpList_load_i1 hI (by with_unfolding_all rfl) (by first | with_reducible exact mm0 | with_reducible exact mm1 | with_reducible exact mm2 | with_reducible exact mm3 | with_reducible exact mm4 | with_reducible exact mm5 | with_reducible exact mm6 | with_reducible exact mm7 | with_reducible exact mm8 | with_reducible exact mm9) (by first | with_reducible exact one3 | with_reducible exact one4 | with_reducible exact one40) (by (repeat (first | rw [List.length_set] | rw [nau_len] | rw [sub_len] | rw [spl_len])) <;> omega) ?_)) | (go_at_call 37; refine (next_any _ v _ hl hcl hw he0 he1).mono ?_; rw [hnx.out]; rintro e w1 ⟨rfl, hw1⟩; replace hI := hI.call hw1; clear hw1) | ((with_reducible refine wpList_mapUpdate (v := .int .i64 (gi d 2)) (j := gi d 1) hI (by with_unfolding_all rfl) (by with_unfolding_all rfl) (by with_unfolding_all rfl) mt65 (by (first | with_reducible exact uu0 | with_reducible exact uu1 | with_reducible exact uu2 | with_reducible exact uu3 | with_reducible exact uu4 | with_reducible exact uu5 | with_reducible exact uu6 | with_reducible exact uu7 | with_reducible exact uu8 | with_reducible exact uu9)) ?_); clear hI; intro w hI))
        go_roundg (len - (j + 1))
        case measure => omega
        case rel => exact ⟨j + 1, y, n + 1, _, by omega, by omega, by go_num, hG2, hI.sub (.cons _ (.cons _ (.refl _)))⟩
    · obtain rfl : j = len := by omega
      have g2 := Lib.hid g
      have hlf2 := Lib.hid hlf
      clear h g hlf hG
      go_wp2_with fail
      go_loopg [9, 10, 11, 12, 13, 14, 15, 47] 5 (fun kk s9 s10 s11 s12 s13 s14 s15 i wr => ∃ l : Nat, kk = 5 - l ∧ l ≤ 5 ∧ i = .int .i64 l ∧ Inv [] w0 wr [mpr r4 f, ib b3 53 v])
      case atStart => exact ⟨0, rfl, by omega, rfl, hI⟩
      case round =>
        clear hI
        obtain ⟨l, rfl, hl5, rfl, hI⟩ := hrel
        by_cases hll : l < 5
        · have hll5 : (l : Int) < 5 := by omega
          rcases hlf2.out.who g2.out hll with ⟨hf, hh0⟩ | ⟨d, hf, hh0, hway⟩
          · have hh := Lib.hid hh0
            have hfu : Hid ((f (l : Int)).getD (Value.int .i64 0) = .int .i64 0) := Lib.hid (by rw [hf]; rfl)
            have hfs : Hid ((f (l : Int)).isSome = false) := Lib.hid (by rw [hf]; rfl)
            clear hf hh0
            go_wp2_with (first | ((with_reducible refine wpList_on  (by with_unfolding_all rfl) ?_)) | ((with_reducible refine wpList_load_iw hI (by with_unfolding_all rfl) (by first | with_reducible exact mm0 | with_reducible exact mm1 | with_reducible exact mm2 | with_reducible exact mm3 | with_reducible exact mm4 | with_reducible exact mm5 | with_reducible exact mm6 | with_reducible exact mm7 | with_reducible exact mm8 | with_reducible exact mm9) (by first | with_reducible exact agg53 | with_reducible exact agg51 | with_reducible exact agg27 | with_reducible exact agg25) (by (repeat (first | rw [List.length_set] | rw [nau_len] | rw [sub_len] | rw [spl_len])) <;> omega) ?_)) | (go_at_call 38; (with_reducible refine (heir_any _ v _ hl hw).mono ?_); rw [hh.out]; rintro e w1 ⟨rfl, hw1⟩; replace hI := hI.call hw1; clear hw1) | (with_reducible refine wpList_lookup_ok hI (by with_unfolding_all rfl) (by with_unfolding_all rfl) (by (first | with_reducible exact mm0 | with_reducible exact mm1 | with_reducible exact mm2 | with_reducible exact mm3 | with_reducible exact mm4 | with_reducible exact mm5 | with_reducible exact mm6 | with_reducible exact mm7 | with_reducible exact mm8 | with_reducible exact mm9)) mt65 zero3 hfu.out hfs.out ?_))
            go_loopg [12, 14, 15] 0 (fun kk s12 s14 s15 wr => s12 = .int .i64 0 ∧ Inv [] w0 wr [mpr r4 f, ib b3 53 v])
            case atStart => exact ⟨rfl, hI⟩
            case round =>
              clear hI
              obtain ⟨rfl, hI⟩ := hrel
              go_wp2_with (first | ((with_reducible refine wpList_on  (by with_unfolding_all rfl) ?_)) | ((with_reducible refine wpList_load_iw hI (by with_unfolding_all rfl) (by first | with_reducible exact mm0 | with_reducible exact mm1 | with_reducible exact mm2 | with_reducible exact mm3 | with_reducible exact mm4 | with_reducible exact mm5 | with_reducible exact mm6 | with_reducible exact mm7 | with_reducible exact mm8 | with_reducible exact mm9) (by first | with_reducible exact agg53 | with_reducible exact agg51 | with_reducible exact agg27 | with_reducible exact agg25) (by (repeat (first | rw [List.length_set] | rw [nau_len] | rw [sub_len] | rw [spl_len])) <;> omega) ?_)))
              go_roundg (5 - (l + 1))
              case measure => omega
              case rel => exact ⟨l + 1, rfl, by omega, by go_num, hI⟩
          · obtain ⟨e0, he⟩ : ∃ e0, e0 = gi v (2 + l) - 1 := ⟨_, rfl⟩
            rw [← he] at hh0
            have hE : gi v (2 + l) = e0 + 1 := by omega
            rw [hE] at hway
            have hh := Lib.hid hh0
            have hfu : Hid ((f (l : Int)).getD (Value.int .i64 0) = .int .i64 d) := Lib.hid (by rw [hf]; rfl)
            have hfs : Hid ((f (l : Int)).isSome = true) := Lib.hid (by rw [hf]; rfl)
            replace hway := Lib.hid hway
            clear hf hh0 he hE
            go_wp2_with (first | ((with_reducible refine wpList_on  (by with_unfolding_all rfl) ?_)) | ((with_reducible refine wpList_load_iw hI (by with_unfolding_all rfl) (by first | with_reducible exact mm0 | with_reducible exact mm1 | with_reducible exact mm2 | with_reducible exact mm3 | with_reducible exact mm4 | with_reducible exact mm5 | with_reducible exact mm6 | with_reducible exact mm7 | with_reducible exact mm8 | with_reducible exact mm9) (by first | with_reducible exact agg53 | with_reducible exact agg51 | with_reducible exact agg27 | with_reducible exact agg25) (by (repeat (first | rw [List.length_set] | rw [nau_len] | rw [sub_len] | rw [spl_len])) <;> omega) ?_)) | (go_at_call 38; (with_reducible refine (heir_any _ v _ hl hw).mono ?_); rw [hh.out]; rintro e w1 ⟨rfl, hw1⟩; replace hI := hI.call hw1; clear hw1) | (with_reducible refine wpList_lookup_ok hI (by with_unfolding_all rfl) (by with_unfolding_all rfl) (by (first | with_reducible exact mm0 | with_reducible exact mm1 | with_reducible exact mm2 | with_reducible exact mm3 | with_reducible exact mm4 | with_reducible exact mm5 | with_reducible exact mm6 | with_reducible exact mm7 | with_reducible exact mm8 | with_reducible exact mm9)) mt65 zero3 hfu.out hfs.out ?_))
            clear hfu hfs
            go_loopg [12, 14, 15] (wayM f rank N d) (fun kk s12 s14 s15 wr => ∃ x : Nat, kk = wayM f rank N x ∧ s12 = .int .i64 x ∧ Hid (Way v f (e0 + 1) x) ∧ Inv [] w0 wr [mpr r4 f, ib b3 53 v])
            case atStart => exact ⟨d, rfl, rfl, hway, hI⟩
            case round =>
              clear hI hway
              obtain ⟨x, rfl, rfl, hway, hI⟩ := hrel
              rcases hlf2.out.way g2.out hway.out with ⟨hf, hE, hm⟩ | ⟨y, hf, hw2, hlt⟩
              · have hfu : Hid ((f (x : Int)).getD (Value.int .i64 0) = .int .i64 0) := Lib.hid (by rw [hf]; rfl)
                have hfs : Hid ((f (x : Int)).isSome = false) := Lib.hid (by rw [hf]; rfl)
                have hmb : Hid (memB v (x : Int) = true) := Lib.hid hm
                obtain rfl : e0 = (x : Int) := by omega
                clear hf hE hm hway hh
                go_wp2_with (first | ((with_reducible refine wpList_on  (by with_unfolding_all rfl) ?_)) | ((with_reducible refine wpList_load_iw hI (by with_unfolding_all rfl) (by first | with_reducible exact mm0 | with_reducible exact mm1 | with_reducible exact mm2 | with_reducible exact mm3 | with_reducible exact mm4 | with_reducible exact mm5 | with_reducible exact mm6 | with_reducible exact mm7 | with_reducible exact mm8 | with_reducible exact mm9) (by first | with_reducible exact agg53 | with_reducible exact agg51 | with_reducible exact agg27 | with_reducible exact agg25) (by (repeat (first | rw [List.length_set] | rw [nau_len] | rw [sub_len] | rw [spl_len])) <;> omega) ?_)) | (go_at_call 39; (with_reducible refine (member_any _ v _ hl).mono ?_); rw [hmb.out]; rintro e w1 ⟨rfl, hw1⟩; replace hI := hI.call hw1; clear hw1) | (with_reducible refine wpList_lookup_ok hI (by with_unfolding_all rfl) (by with_unfolding_all rfl) (by (first | with_reducible exact mm0 | with_reducible exact mm1 | with_reducible exact mm2 | with_reducible exact mm3 | with_reducible exact mm4 | with_reducible exact mm5 | with_reducible exact mm6 | with_reducible exact mm7 | with_reducible exact mm8 | with_reducible exact mm9)) mt65 zero3 hfu.out hfs.out ?_))
                go_roundg (5 - (l + 1))
                case measure => omega
                case rel => exact ⟨l + 1, rfl, by omega, by go_num, hI⟩
              · have hfu : Hid ((f (x : Int)).getD (Value.int .i64 0) = .int .i64 y) := Lib.hid (by rw [hf]; rfl)
                have hfs : Hid ((f (x : Int)).isSome = true) := Lib.hid (by rw [hf]; rfl)
                have hw3 := Lib.hid hw2
                have hlt2 := Lib.hid hlt
                clear hf hw2 hlt hway hh
                go_wp2_with (first | ((with_reducible refine wpList_on  (by with_unfolding_all rfl) ?_)) | ((with_reducible refine wpList_load_iw hI (by with_unfolding_all rfl) (by first | with_reducible exact mm0 | with_reducible exact mm1 | with_reducible exact mm2 | with_reducible exact mm3 | with_reducible exact mm4 | with_reducible exact mm5 | with_reducible exact mm6 | with_reducible exact mm7 | with_reducible exact mm8 | with_reducible exact mm9) (by first | with_reducible exact agg53 | with_reducible exact agg51 | with_reducible exact agg27 | with_reducible exact agg25) (by (repeat (first | rw [List.length_set] | rw [nau_len] | rw [sub_len] | rw [spl_len])) <;> omega) ?_)) | (with_reducible refine wpList_lookup_ok hI (by with_unfolding_all rfl) (by with_unfolding_all rfl) (by (first | with_reducible exact mm0 | with_reducible exact mm1 | with_reducible exact mm2 | with_reducible exact mm3 | with_reducible exact mm4 | with_reducible exact mm5 | with_reducible exact mm6 | with_reducible exact mm7 | with_reducible exact mm8 | with_reducible exact mm9)) mt65 zero3 hfu.out hfs.out ?_))
                go_roundg (wayM f rank N y)
                case measure => exact hlt2.out
                case rel => exact ⟨y, rfl, rfl, hw3, hI⟩
        · obtain rfl : l = 5 := by omega
          go_wp2_with (first | ((with_reducible refine wpList_on  (by with_unfolding_all rfl) ?_)))
          go_ret
          exact ⟨rfl, hI.below⟩
theorem heirs_cells (w0 : World) (a : Option Addr) (len c : Nat) (row : Nat → List Value) (h : SlArg w0 a len c (List.replicate 3 pInt) row) :
    Calls Try.prog 12 #[.slice a len c] w0 fun e w' => e = .returned (.bool true) ∧ Below w0.heap.size w0 w' := by
  obtain ⟨r, hr⟩ := h.ints
  exact heirs_walk w0 a len c r hr
end Go.Proofs.Ytaeapoidigglnaa
