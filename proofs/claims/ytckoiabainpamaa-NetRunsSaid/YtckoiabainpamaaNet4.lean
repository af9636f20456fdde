/-
  The contract of net's Len. No condition.
-/
import Derived.Test.YtckoiabainpamaaNet3
namespace Go.Proofs.Ytckoiabainpamaa
open Go.RowKit Go.Conc
set_option maxRecDepth 100000
set_option linter.unusedSimpArgs false
set_option linter.unusedVariables false
theorem agg71 : AggT Try.prog 71 25 := ⟨by kernel_rfl, by kernel_rfl⟩
theorem agg70 : AggT Try.prog 70 5 := ⟨by kernel_rfl, by kernel_rfl⟩
theorem arr71 : ArrT Try.prog 71 5 70 5 := ⟨by kernel_rfl, by kernel_rfl⟩
theorem arr70 : ArrT Try.prog 70 5 35 1 := ⟨by kernel_rfl, by kernel_rfl⟩
theorem zero70 : (Try.prog.info? 70).map (·.zero) = some (some (.agg (List.replicate 5 (.pointer none)).toArray)) := by kernel_rfl
section
variable {P : Program} {ops : Array Oper} {Q : Exit → Act → World → Prop} {a : Act} {rest : List Oper} {w : World} {dst : Option Tmp} {ty : TypeId} {pos : String} {af : Array Edge}
theorem wpList_index_ag {x y : Operand} {t len e q : Nat} {k0 : IntKind} {i : Int} {cs vs : List Value} (hx : a.eval x = .agg cs.toArray) (hy : a.eval y = .int k0 i) (hA : ArrT P t len e q) (hT : AggT P e q) (h0 : 0 ≤ i) (h1 : i < len) (hv : (cs.drop (i.toNat * q)).take q = vs)
    (k : wpList P ops Q rest (a.put dst (.agg vs.toArray)) w) : wpList P ops Q (⟨dst, .index t x y, ty, pos, af, none⟩ :: rest) a w := by
  refine wpList_yld ?_ k
  unfold Yld execOp
  simp only [hx, hy, Sem.run_bind, run_index hA h0 h1, run_part_agg hT, Result.andThen_ok, hv]
  rfl
theorem wpList_index_on {x y : Operand} {t len e : Nat} {k0 : IntKind} {i : Int} {cs : List Value} {v : Value} (hx : a.eval x = .agg cs.toArray) (hy : a.eval y = .int k0 i) (hA : ArrT P t len e 1) (hT : OneT P e) (h0 : 0 ≤ i) (h1 : i < len) (hv : cs[i.toNat]? = some v)
    (k : wpList P ops Q rest (a.put dst v) w) : wpList P ops Q (⟨dst, .index t x y, ty, pos, af, none⟩ :: rest) a w := by
  refine wpList_yld ?_ k
  unfold Yld execOp
  have hv' : cs[i.toNat * 1]? = some v := by rw [Nat.mul_one]; exact hv
  simp only [hx, hy, Sem.run_bind, run_index hA h0 h1, run_part_one hT hv', Result.andThen_ok]
  rfl
end
theorem splice_all {vs : List Value} {n : Nat} {z : Value} (h : vs.length = n) : splice (List.replicate n z) 0 vs = vs := by
  simp [splice, h]
/-- what is old and not turned still holds -/
theorem Inv.kept {w0 w : World} {m : List Res} {r : Res} (h : Inv [] w0 w m) (hs : r.sat w0) (hlt : ∀ k ∈ r.own, k < w0.heap.size) : r.sat w :=
  r.loc w0 w (fun k hk => h.old k (hlt k hk) (by simp)) hs
def rowOf (pb : Nat → Nat) (f : Nat) : List Value := ((cellsTo pb 25).drop (f * 5)).take 5
theorem rowOf_len (pb : Nat → Nat) {f : Nat} (hf : f < 5) : (rowOf pb f).length = 5 := by
  simp only [rowOf, List.length_take, List.length_drop, cellsTo_len]; omega
theorem rowOf_get (pb : Nat → Nat) {f t : Nat} (hf : f < 5) (ht : t < 5) : (rowOf pb f)[t]? = some (cellTo pb 25 (f * 5 + t)) := by
  rw [rowOf, List.getElem?_take_of_lt ht, List.getElem?_drop, cellsTo_get _ _ (by omega)]
theorem cellTo_one (pb : Nat → Nat) (n i : Nat) : (cellTo pb n i).oneCell' = true := by
  unfold cellTo; split <;> rfl
theorem rowOf_one (pb : Nat → Nat) (f : Nat) : ∀ u ∈ rowOf pb f, u.oneCell' = true := fun u hu => by
  have := List.mem_of_mem_drop (List.mem_of_mem_take hu)
  obtain ⟨i, _, rfl⟩ := List.mem_map.1 this
  exact cellTo_one _ _ _
theorem lenTo_le (q : Nat → List QE) (h : ∀ i ∈ ways20, (q i).length ≤ 8) : ∀ j, j ≤ 25 → lenTo q j ≤ j * 8
  | 0, _ => by rw [lenTo_0]; omega
  | j + 1, hj => by
    have ih := lenTo_le q h j (by omega)
    by_cases h6 : j % 6 = 0
    · rw [lenTo_same q (by omega) h6]; omega
    · rw [lenTo_more q (by omega) h6]
      have := h j (ways_mem (by omega) h6)
      omega
set_option maxHeartbeats 3200000 in
theorem len_net (w0 : World) (p : Nat) (pb c : Nat → Nat) (q : Nat → List QE) (hq : ∀ i ∈ ways20, (q i).length ≤ 8) (h : Inv (ntr 73 p pb c q).own w0 w0 [ntr 73 p pb c q]) :
    Calls Try.prog 31 #[.pointer (some ⟨p, 0, none⟩)] w0 fun e w' => e = .returned (.int .i64 (lenTo q 25)) ∧ Below w0.heap.size w0 w' := by
  have hblk : w0.heap[p]? = some (.cells (cellsTo pb 25).toArray 73 (0, 0)) := (nopen h).blk mm0
  have hcells : CellsAt w0 p 0 (cellsTo pb 25) := fun j hj => by rw [cell_blk hblk, Nat.zero_add]; exact List.getElem?_eq_getElem hj
  have hbox : ∀ i ∈ ways20, (bxr (pb i) (c i) 8 (q i)).sat w0 ∧ ∀ k ∈ (bxr (pb i) (c i) 8 (q i)).own, k < w0.heap.size := fun i hi => by
    have h2 := nout h hi
    exact ⟨h2.sat _ mm0, fun k hk => (h2.mine k (mem_owned.2 ⟨_, mm0, hk⟩)).2⟩
  have hle := lenTo_le q hq
  clear h hblk
  have hI := Inv.start w0
  go_enter Try.func31, Try.ntmps31
  go_upto_region 3 with (first | ((with_reducible refine wpList_on  (by with_unfolding_all rfl) ?_)) | (with_reducible refine wpList_load_arg (vs := cellsTo pb 25) hI (by with_unfolding_all rfl) hcells (by simp) (by rw [cellsTo_len]; exact agg71) ?_))
  go_loopg [3, 5, 7, 12, 16] 5 (fun kk s3 s5 s7 i s16 wr => ∃ (f : Nat), kk = 5 - f ∧ f ≤ 5 ∧ i = .int .i64 f ∧ s3 = .int .i64 (lenTo q (f * 5)) ∧ Inv [] w0 wr [])
  case atStart => exact ⟨0, by omega, by omega, rfl, by rw [Nat.zero_mul, lenTo_0]; rfl, hI⟩
  case round =>
    clear hI
    obtain ⟨f, rfl, hf, rfl, rfl, hI⟩ := hrel
    by_cases hf5 : f < 5
    · have hfi : (f : Int) < 5 := by omega
      obtain ⟨rw5, hrow0⟩ : ∃ r, rowOf pb f = r := ⟨_, rfl⟩
      have hr5 : rw5.length = 5 := by rw [← hrow0]; exact rowOf_len pb hf5
      have hone : ∀ u ∈ rw5, u.oneCell' = true := by rw [← hrow0]; exact rowOf_one pb f
      have hrow : ((cellsTo pb 25).drop ((f : Int).toNat * 5)).take 5 = rw5 := by rw [← hrow0]; rfl
      have hget : ∀ t, t < 5 → rw5[t]? = some (cellTo pb 25 (f * 5 + t)) := fun t ht => by rw [← hrow0]; exact rowOf_get pb hf5 ht
      clear hrow0
      go_upto_region 4 with (first | ((with_reducible refine wpList_on  (by with_unfolding_all rfl) ?_)))
      go_upto_region 5 with (first | ((with_reducible refine wpList_on  (by with_unfolding_all rfl) ?_)) | (with_reducible refine wpList_index_ag (cs := cellsTo pb 25) (vs := rw5) (by with_unfolding_all rfl) (by with_unfolding_all rfl) arr71 agg70 (by omega) (by omega) hrow ?_) | ((with_reducible refine wpList_alloc (cs := List.replicate 5 (.pointer none)) hI zero70 rfl ?_); clear hI; intro bx w hI) | ((with_reducible refine wpList_store (cs := List.replicate 5 (.pointer none)) (vs := rw5) hI (by with_unfolding_all rfl) (by with_unfolding_all rfl) Upd.here agg70.size hr5 (by simp) hone ?_); clear hI; intro w hI; rw [splice_all hr5] at hI))
      go_upto_region 6 with (first | ((with_reducible refine wpList_on  (by with_unfolding_all rfl) ?_)) | (with_reducible refine wpList_load_agg (cs := rw5) hI (by with_unfolding_all rfl) mm0 agg70 (by rw [hr5]; decide) ?_; simp only [List.drop_zero, List.take_of_length_le (Nat.le_of_eq hr5)]))
      go_loopg [3, 7, 16] 5 (fun kk s3 s7 i wr => ∃ (t : Nat), kk = 5 - t ∧ t ≤ 5 ∧ i = .int .i64 t ∧ s3 = .int .i64 (lenTo q (f * 5 + t)) ∧ Inv [] w0 wr [])
      case atStart => exact ⟨0, by omega, by omega, rfl, rfl, hI.sub (List.nil_sublist _)⟩
      case round =>
        clear hI
        obtain ⟨t, rfl, ht, rfl, rfl, hI⟩ := hrel
        by_cases ht5 : t < 5
        · have hti : (t : Int) < 5 := by omega
          have hj : f * 5 + t < 25 := by omega
          have hcv := hget t ht5
          clear hget hrow
          by_cases h6 : (f * 5 + t) % 6 = 0
          · have hc0 : cellTo pb 25 (f * 5 + t) = .pointer none := by unfold cellTo; rw [if_pos (.inl h6)]
            rw [hc0] at hcv
            clear hc0
            go_wp2_with (first | ((with_reducible refine wpList_on  (by with_unfolding_all rfl) ?_)) | (with_reducible refine wpList_index_on (cs := rw5) (v := .pointer none) (by with_unfolding_all rfl) (by with_unfolding_all rfl) arr70 one35 (by omega) (by omega) (by rw [Int.toNat_natCast]; exact hcv) ?_))
            go_roundg (5 - (t + 1))
            case measure => omega
            case rel => exact ⟨t + 1, by omega, by omega, by go_num, by rw [show f * 5 + (t + 1) = f * 5 + t + 1 from rfl, lenTo_same q hj h6], hI⟩
          · have hjw : f * 5 + t ∈ ways20 := ways_mem hj h6
            have hc0 := cellTo_way pb hjw
            have hq8 := hq _ hjw
            have hlej := hle _ (Nat.le_of_lt hj)
            have hbs := hI.kept (hbox _ hjw).1 (hbox _ hjw).2
            have hmore := lenTo_more q hj h6
            rw [hc0] at hcv
            clear hc0 hbox
            generalize hjj : f * 5 + t = j at *
            clear hjw
            go_wp2_with (first | ((with_reducible refine wpList_on  (by with_unfolding_all rfl) ?_)) | (with_reducible refine wpList_index_on (cs := rw5) (v := .pointer (some ⟨pb j, 0, none⟩)) (by with_unfolding_all rfl) (by with_unfolding_all rfl) arr70 one35 (by omega) (by omega) (by rw [Int.toNat_natCast]; exact hcv) ?_) | (go_at_call 27; with_reducible refine (len_bx _ (pb j) (c j) 8 (q j) hbs).mono ?_; rintro e w1 ⟨rfl, hw⟩; rw [hw]; clear hw))
            go_roundg (5 - (t + 1))
            case measure => omega
            case rel => exact ⟨t + 1, by omega, by omega, by go_num, by rw [show f * 5 + (t + 1) = f * 5 + t + 1 from rfl, hjj, hmore]; go_num, hI⟩
        · obtain rfl : t = 5 := by omega
          go_wp2_with (first | ((with_reducible refine wpList_on  (by with_unfolding_all rfl) ?_)))
          go_roundg (5 - (f + 1))
          case measure => omega
          case rel => exact ⟨f + 1, by omega, by omega, by go_num, by rw [show (f + 1) * 5 = f * 5 + 5 by omega], hI⟩
    · obtain rfl : f = 5 := by omega
      go_wp2_with (first | ((with_reducible refine wpList_on  (by with_unfolding_all rfl) ?_)))
      go_ret
      exact ⟨rfl, hI.below⟩
end Go.Proofs.Ytckoiabainpamaa
