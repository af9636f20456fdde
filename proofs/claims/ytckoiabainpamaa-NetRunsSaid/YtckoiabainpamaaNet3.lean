/-
  The contract of net.New. No condition.
-/
import Derived.Test.YtckoiabainpamaaNet2
import Derived.Test.YtckoiabainpamaaIntMem
import Derived.Test.YtckoiabainpamaaAny
import Derived.Deep.LoopGhost
namespace Go.Proofs.Ytckoiabainpamaa
open Go.RowKit Go.Conc
set_option maxRecDepth 100000
set_option linter.unusedSimpArgs false
set_option linter.unusedVariables false
theorem cap8 : capF 8 = 8 := by decide
theorem zero73 : (Try.prog.info? 73).map (·.zero) = some (some (.agg (cellsTo (fun _ => 0) 0).toArray)) := by kernel_rfl
theorem kn73 : KnownT Try.prog 73 := by unfold KnownT; kernel_rfl
section
variable {P : Program} {ops : Array Oper} {Q : Exit → Act → World → Prop} {a : Act} {rest : List Oper} {w : World} {dst : Option Tmp} {ty : TypeId} {pos : String} {af : Array Edge}
theorem wpList_build0_p {t : TypeId} {z : Value} {cs : List Value} (hz : (P.info? t).map (·.zero) = some (some z)) (hc : z.cells = cs.toArray) (hK : KnownT P t)
    (k : wpList P ops Q rest (a.put dst (.agg cs.toArray)) w) : wpList P ops Q (⟨dst, .build t #[], ty, pos, af, none⟩ :: rest) a w := by
  refine wpList_yld ?_ k
  unfold Yld execOp
  simp only [Array.map_empty, Sem.run_bind, run_build0 hz hc hK, Result.andThen_ok]
  rfl
end
theorem wayr_none (pb c : Nat → Nat) (j pbn cn : Nat) : bxr pbn cn 8 [] = wayr (upf pb j pbn) (upf c j cn) (fun _ => []) j := by unfold wayr; rw [upf_at, upf_at]
theorem wayr_none_ne (pb c : Nat → Nat) (j pbn cn : Nat) : ∀ i ∈ waysTo j, wayr (upf pb j pbn) (upf c j cn) (fun _ => []) i = wayr pb c (fun _ => []) i := fun i hi => by
  have := waysTo_lt hi
  unfold wayr; rw [upf_ne _ _ (by omega), upf_ne _ _ (by omega)]
theorem ways_not (j : Nat) : j ∉ waysTo j := fun h => Nat.lt_irrefl _ (waysTo_lt h)
theorem new_one {w0 w : World} {p : Nat} {pb c : Nat → Nat} {j pbn cn : Nat} (hj : j < 25) (h6 : j % 6 ≠ 0) (hI : Inv [] w0 w [bxr pbn cn 8 [], blk p 73 (splice (cellsTo pb j) j [.pointer (some ⟨pbn, 0, none⟩)]), fam (waysTo j) (wayr pb c (fun _ => []))]) :
    Inv [] w0 w [blk p 73 (cellsTo (upf pb j pbn) (j + 1)), fam (waysTo (j + 1)) (wayr (upf pb j pbn) (upf c j cn) (fun _ => []))] := by
  rw [cellsTo_set _ hj h6] at hI
  rw [waysTo_more hj h6]
  exact hI.more (ways_not j) (wayr_none pb c j pbn cn) (wayr_none_ne pb c j pbn cn) (Upd.there Upd.here)
theorem new_same {w0 w : World} {p : Nat} {pb c : Nat → Nat} {j : Nat} (hj : j < 25) (h6 : j % 6 = 0) (hI : Inv [] w0 w [blk p 73 (cellsTo pb j), fam (waysTo j) (wayr pb c (fun _ => []))]) :
    Inv [] w0 w [blk p 73 (cellsTo pb (j + 1)), fam (waysTo (j + 1)) (wayr pb c (fun _ => []))] := by
  rw [cellsTo_same _ h6, waysTo_same hj h6]
  exact hI
theorem new_start {w0 w : World} {p : Nat} (hI : Inv [] w0 w [blk p 73 (cellsTo (fun _ => 0) 0)]) : Inv [] w0 w [blk p 73 (cellsTo (fun _ => 0) 0), fam (waysTo 0) (wayr (fun _ => 0) (fun _ => 0) (fun _ => []))] := by
  rw [waysTo_0]
  exact (hI.fam0 (wayr (fun _ => 0) (fun _ => 0) (fun _ => []))).turn (fun hs y hy => hs y (by simp only [List.mem_cons] at hy ⊢; rcases hy with h | h | h <;> simp [h])) (by simp [owned, fam])
set_option maxHeartbeats 3200000 in
theorem net_new (w0 : World) : Calls Try.prog 29 #[] w0 fun e w' => ∃ p pb c, e = .returned (.pointer (some ⟨p, 0, none⟩)) ∧ Inv [] w0 w' [ntr 73 p pb c (fun _ => [])] := by
  have hI := Inv.start w0
  go_enter Try.func29, Try.ntmps29
  go_upto_region 3 with (first | ((with_reducible refine wpList_on  (by with_unfolding_all rfl) ?_)) | (with_reducible refine wpList_build0_p (cs := cellsTo (fun _ => 0) 0) zero73 rfl kn73 ?_) | ((with_reducible refine wpList_box (cs := cellsTo (fun _ => 0) 0) hI (by with_unfolding_all rfl) ?_); clear hI; intro p w hI))
  replace hI := new_start hI
  go_loopg [2, 3, 6, 9] 5 (fun kk s2 s3 i s9 wr => ∃ (f : Nat) (pb c : Nat → Nat), kk = 5 - f ∧ f ≤ 5 ∧ i = .int .i64 f ∧ Inv [] w0 wr [blk p 73 (cellsTo pb (f * 5)), fam (waysTo (f * 5)) (wayr pb c (fun _ => []))])
  case atStart => exact ⟨0, _, _, by omega, by omega, rfl, hI⟩
  case round =>
    clear hI
    obtain ⟨f, pb, c, rfl, hf, rfl, hI⟩ := hrel
    by_cases hf5 : f < 5
    · have hfi : (f : Int) < 5 := by omega
      go_upto_region 6 with (first | ((with_reducible refine wpList_on  (by with_unfolding_all rfl) ?_)))
      go_loopg [3, 9] 5 (fun kk s3 i wr => ∃ (t : Nat) (pb c : Nat → Nat), kk = 5 - t ∧ t ≤ 5 ∧ i = .int .i64 t ∧ Inv [] w0 wr [blk p 73 (cellsTo pb (f * 5 + t)), fam (waysTo (f * 5 + t)) (wayr pb c (fun _ => []))])
      case atStart => exact ⟨0, _, _, by omega, by omega, rfl, hI⟩
      case round =>
        clear hI
        obtain ⟨t, pb, c, rfl, ht, rfl, hI⟩ := hrel
        by_cases ht5 : t < 5
        · have hti : (t : Int) < 5 := by omega
          by_cases hft : f = t
          · have hbe : ((f : Int) == (t : Int)) = true := by simp [hft]
            have h6 : (f * 5 + t) % 6 = 0 := by omega
            have hj : f * 5 + t < 25 := by omega
            clear hft
            go_wp2_with (first | ((with_reducible refine wpList_on  (by with_unfolding_all rfl) ?_)))
            go_roundg (5 - (t + 1))
            case measure => omega
            case rel => exact ⟨t + 1, pb, c, by omega, by omega, by go_num, new_same hj h6 hI⟩
          · have hbe : ((f : Int) == (t : Int)) = false := by simp; omega
            have h6 : (f * 5 + t) % 6 ≠ 0 := by omega
            have hj : f * 5 + t < 25 := by omega
            clear hft
            go_upto_region 9 with (first | ((with_reducible refine wpList_on  (by with_unfolding_all rfl) ?_)))
            refine wp_region_any (by kernel_rfl) ?_
            replace hI := hI.drew
            change wpAny _ _ _ _ _ _ _ (World.drew _)
            generalize hwd : World.drew _ = w9 at hI ⊢
            clear hwd
            refine wpAny_take (i := 0) (v := ?_) rfl (by kernel_rfl) (by kernel_rfl) (by kernel_rfl) (fun _ _ _ h => h) (Or.inl ⟨by rfl, ?_⟩) ?_
            (rotate_left; focus (intro w; go_simp; with_reducible rfl))
            refine wpAny_take (i := 1) (v := ?_) rfl (by kernel_rfl) (by kernel_rfl) (by kernel_rfl) (fun _ _ _ h => h) (Or.inl ⟨by rfl, ?_⟩) ?_
            (rotate_left; focus (intro w; go_simp; with_reducible rfl))
            refine wpAny_take (i := 2) (v := ?_) rfl (by kernel_rfl) (by kernel_rfl) (by kernel_rfl) (fun _ _ _ h => h) (Or.inl ⟨by rfl, ?_⟩) ?_
            (rotate_left; focus (intro w; go_simp; with_reducible rfl))
            refine wpAny_take (i := 4) (v := ?_) rfl (by kernel_rfl) (by kernel_rfl) (by kernel_rfl) (fun _ _ _ h => h) (Or.inl ⟨by rfl, ?_⟩) ?_
            (rotate_left; focus (intro w; go_simp; with_reducible rfl))
            refine wpAny_take (i := 5) (v := ?_) rfl (by kernel_rfl) (by kernel_rfl) (by kernel_rfl) (fun _ _ _ h => h) (Or.inl ⟨by rfl, ?_⟩) ?_
            (rotate_left; focus (intro w; go_simp; with_reducible rfl))
            refine wpAny_take (i := 6) (v := ?_) rfl (by kernel_rfl) (by kernel_rfl) (by kernel_rfl) (fun _ _ _ h => h) (Or.inl ⟨by rfl, ?_⟩) ?_
            (rotate_left; focus (intro w; go_simp; with_reducible rfl))
            refine any_one (i := 3) (by kernel_rfl) ?_
            refine any_stepl (i := 3) (by rfl) (by with_unfolding_all rfl) ?_
            go_wp2_with (first | (go_at_call 22; refine (new_bx _ 8).mono ?_; rintro e w1 ⟨pbn, cn, rfl, hJ⟩; replace hI := hI.seq hJ; rw [cap8] at hI; simp only [List.cons_append, List.nil_append] at hI; clear hJ))
            refine kpost_mk ?_
            refine wpAny_take (i := 7) (v := ?_) rfl (by kernel_rfl) (by kernel_rfl) (by kernel_rfl) (fun _ _ _ h => h) (Or.inl ⟨by rfl, ?_⟩) ?_
            (rotate_left; focus (intro w; go_simp; with_reducible rfl))
            refine any_one (i := 8) (by kernel_rfl) ?_
            refine any_stepl (i := 8) (by rfl) (by with_unfolding_all rfl) ?_
            ((with_reducible refine wpList_store (vs := [.pointer (some ⟨pbn, 0, none⟩)]) hI (by with_unfolding_all rfl) (by with_unfolding_all rfl) (Upd.there Upd.here) one35.size rfl (by rw [cellsTo_len]; omega) (by simp [Value.oneCell']) ?_); clear hI; intro w hI)
            refine kpost_mk ?_
            refine wpAny_done (by kernel_rfl) ?_ _
            go_wp2_with (first | ((with_reducible refine wpList_on  (by with_unfolding_all rfl) ?_)))
            go_roundg (5 - (t + 1))
            case measure => omega
            case rel => exact ⟨t + 1, upf pb (f * 5 + t) pbn, upf c (f * 5 + t) cn, by omega, by omega, by go_num, new_one hj h6 hI⟩
        · obtain rfl : t = 5 := by omega
          go_wp2_with (first | ((with_reducible refine wpList_on  (by with_unfolding_all rfl) ?_)))
          go_roundg (5 - (f + 1))
          case measure => omega
          case rel => exact ⟨f + 1, pb, c, by omega, by omega, by go_num, by rw [show (f + 1) * 5 = f * 5 + 5 by omega]; exact hI⟩
    · obtain rfl : f = 5 := by omega
      go_wp2_with (first | ((with_reducible refine wpList_on  (by with_unfolding_all rfl) ?_)))
      go_ret
      refine ⟨p, pb, c, rfl, ?_⟩
      have h := hI
      rw [show 5 * 5 = 25 from rfl, waysTo_25] at h
      exact nclose h
end Go.Proofs.Ytckoiabainpamaa
