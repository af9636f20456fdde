/-
  The law BoxRuns: its walk (under way). No condition.
-/
import Derived.Test.YtckoiabainpamaaBoxM
import Derived.Deep.DeepCutAuto
import Derived.Deep.CutBlock
import Derived.Deep.LoopGhost
import Derived.Test.YtckoiabainpamaaAny
import Derived.Test.YtckoiabainpamaaReg2
namespace Go.Proofs.Ytckoiabainpamaa
open Go.RowKit
set_option maxRecDepth 100000
set_option linter.unusedSimpArgs false
set_option linter.unusedVariables false
theorem agg57 : AggT Try.prog 57 2 := ⟨by kernel_rfl, by kernel_rfl⟩
theorem zero57 : (Try.prog.info? 57).map (·.zero) = some (some (.agg #[.int .i64 0, .slice none 0 0])) := by kernel_rfl
theorem cr3 : CR Try.prog 3 [pInt] := CR.int Try.underlying3 (by kernel_rfl)
theorem cr57 : CR Try.prog 57 [pInt, pSlice [pU8]] := CR.struct (l := [(3, 0), (22, 1)]) (by kernel_rfl) (by kernel_rfl) (by kernel_rfl) (.cons cr3 (.cons cr22 .nil))
theorem cr55 : CR Try.prog 55 [pSlice [pInt, pSlice [pU8]]] := CR.slice (by_ := 32) Try.underlying55 cr57 (by kernel_rfl) (by decide) (by kernel_rfl) (by decide)
theorem one3 : OneT Try.prog 3 := ⟨by kernel_rfl, by kernel_rfl⟩
theorem one9 : OneT Try.prog 9 := ⟨by kernel_rfl, by kernel_rfl⟩
section
variable {P : Program} {ops : Array Oper} {Q : Exit → Act → World → Prop} {a : Act} {rest : List Oper} {T : List Nat} {w0 w : World} {m : List Res} {dst : Option Tmp} {ty : TypeId} {pos : String} {af : Array Edge}
theorem wpList_load_rw {x : Operand} {t b off n c : Nat} {v : Value} {xs : List Value} (hI : Inv T w0 w m) (hx : a.eval x = .pointer (some ⟨b, off, none⟩)) (hm : rwr (.slice (some ⟨b, off, none⟩) n c) (v :: xs) ∈ m) (hT : OneT P t)
    (k : wpList P ops Q rest (a.put dst v) w) : wpList P ops Q (⟨dst, .load t x, ty, pos, af, none⟩ :: rest) a w := by
  refine wpList_yld ?_ k
  obtain ⟨g, o, he, hc⟩ := hI.orr_some hm
  simp only [Option.some.injEq, Addr.mk.injEq] at he
  obtain ⟨rfl, rfl, _⟩ := he
  unfold Yld execOp
  simp [hx, Instr.loadAt, Instr.sureAddr, Sem.run_bind, Sem.run_pure, Result.andThen_ok, loadVar, hT.isAgg, load, Sem.run, hc]
end
theorem Inv.orr_rda {T : List Nat} {w0 w : World} {m : List Res} (h : Inv T w0 w m) {n c g off : Nat} {x : Value} {xs : List Value} {ad : Option Addr} (hm : rwr (.slice (some ⟨g, off, none⟩) n c) (x :: xs) ∈ m)
    (ha : (if c = 1 then some ⟨g, off, none⟩ else some ⟨g, off + 1, none⟩ : Option Addr) = ad) : Rd w ad xs := by
  by_cases hc : c = 1
  · have := (h.orr_le hm).2.1
    simp only [List.length_cons] at this
    obtain rfl : xs = [] := List.eq_nil_of_length_eq_zero (by omega)
    intro j u hj
    simp at hj
  · rw [if_neg hc] at ha
    rw [← ha]
    exact (h.orr_rd hm).drop 1
theorem Inv.orr_none {T : List Nat} {w0 w : World} {m m' : List Res} (h : Inv T w0 w m) {n c g off : Nat} {xs : List Value} (hu : Upd (rwr (.slice (some ⟨g, off, none⟩) n c) xs) (rwr (.slice (some ⟨g, off, none⟩) 0 0) []) m m') : Inv T w0 w m' :=
  h.weak hu (fun _ => ⟨_, _, rfl, Nat.le_refl _, Nat.zero_le _, fun j u hj => by simp at hj⟩) rfl
theorem hg_nil {qs : List (Option Addr × Nat × List UInt8)} {cap : Nat} (hG : Hid (qs.map (·.2.2) = [] ∧ ([] : List (List UInt8)).length ≤ cap ∧ ∀ b ∈ ([] : List (List UInt8)), b.length ≤ 100)) : qs = [] := by
  simpa using hG.out.1
theorem hg_cons {qs : List (Option Addr × Nat × List UInt8)} {cap : Nat} {m0 : List UInt8} {mt : List (List UInt8)} (hG : Hid (qs.map (·.2.2) = m0 :: mt ∧ (m0 :: mt).length ≤ cap ∧ ∀ b ∈ m0 :: mt, b.length ≤ 100)) :
    ∃ a0 c0 qt, qs = (a0, c0, m0) :: qt ∧ Hid (qt.map (·.2.2) = mt ∧ mt.length + 1 ≤ cap ∧ m0.length ≤ 100 ∧ ∀ b ∈ mt, b.length ≤ 100) := by
  obtain ⟨h1, h2, h3⟩ := hG.out
  rcases qs with _ | ⟨⟨a0, c0, b0⟩, qt⟩
  · simp at h1
  · simp only [List.map_cons, List.cons.injEq] at h1
    obtain ⟨rfl, h1⟩ := h1
    exact ⟨a0, c0, qt, rfl, Lib.hid ⟨h1, by simpa using h2, h3 _ (by simp), fun b hb => h3 b (by simp [hb])⟩⟩
theorem hg_tl {qs : List (Option Addr × Nat × List UInt8)} {cap : Nat} {m0 : List UInt8} {mt : List (List UInt8)} (hG : Hid (qs.map (·.2.2) = mt ∧ mt.length + 1 ≤ cap ∧ m0.length ≤ 100 ∧ ∀ b ∈ mt, b.length ≤ 100)) :
    Hid (qs.map (·.2.2) = mt ∧ mt.length ≤ cap ∧ ∀ b ∈ mt, b.length ≤ 100) := Lib.hid ⟨hG.out.1, by have := hG.out.2.1; omega, hG.out.2.2.2⟩
theorem runs_fin2 {w0 w : World} {r1 r2 r4 : Res} {g off c : Nat} {m0 : List UInt8} {ms : List (List UInt8)} (hI : Inv [] w0 w [r1, r2, rwr (.slice (some ⟨g, off, none⟩) (ms.length + 1) c) (sv m0 :: ms.map sv), r4]) :
    Inv [] w0 w [rwr (.slice (some ⟨g, off + 1, none⟩) ms.length (c - 1)) (ms.map sv), r4] :=
  (hI.orr_tail (Upd.there (Upd.there Upd.here))).sub (.cons _ (.cons _ (.refl _)))
theorem hg_put {qs : List (Option Addr × Nat × List UInt8)} {ms : List (List UInt8)} {cap : Nat} (hG : Hid (qs.map (·.2.2) = ms ∧ ms.length ≤ cap ∧ ∀ b ∈ ms, b.length ≤ 100)) (hroom : ms.length < cap) {bj : List UInt8} (hb : bj.length ≤ 100) (a1 : Option Addr) (c1 : Nat) :
    Hid ((qs ++ [(a1, c1, bj)]).map (·.2.2) = ms ++ [bj] ∧ (ms ++ [bj]).length ≤ cap ∧ ∀ b ∈ ms ++ [bj], b.length ≤ 100) := Lib.hid (by
  obtain ⟨h1, h2, h3⟩ := hG.out
  refine ⟨by simp [h1], by simp; omega, fun b hb' => ?_⟩
  rcases List.mem_append.1 hb' with hb' | hb'
  · exact h3 b hb'
  · obtain rfl := List.mem_singleton.1 hb'; exact hb)
theorem runs_fin {w0 w : World} {r1 r2 r3 r4 : Res} {a3 : Option Addr} {c3 : Nat} {ms : List (List UInt8)} {bj : List UInt8} (hI : Inv [] w0 w [r1, osl 9 1 (.slice a3 (ms.length + 1) c3) (ms.length + 1) (ms.map sv ++ [Value.string ⟨bj.toArray⟩]), r2, r3, r4]) :
    Inv [] w0 w [rwr (.slice a3 (ms ++ [bj]).length c3) ((ms ++ [bj]).map sv), r4] := by
  have h := (hI.orr (xs := ms.map sv ++ [Value.string ⟨bj.toArray⟩]) (by simp) (Upd.there Upd.here)).sub (.cons _ (.cons_cons _ (.cons _ (.cons _ (.refl _)))))
  simpa [sv] using h
set_option maxHeartbeats 64000000 in
theorem runs_walk (w0 : World) (a : Option Addr) (len cp : Nat) (rk : Nat → Int) (ra : Nat → Option Addr) (rc : Nat → Nat) (rb : Nat → List UInt8) (h : CArg w0 a len rk ra rc rb) (size : Int) :
    Calls Try.prog 14 #[.int .i64 size, .slice a len cp] w0 fun e w' => e = .returned (.bool true) ∧ Below w0.heap.size w0 w' := by
  have hI := Inv.start w0
  by_cases hbig : 200 < len
  · have hb : decide ((200 : Int) < (len : Int)) = true := by simp; omega
    clear h hbig
    go_enter Try.func14, Try.ntmps14
    go_wp2_with (first | ((with_reducible refine wpList_on  (by with_unfolding_all rfl) ?_)) | (go_at_call 21; refine (fit08 _).mono ?_; rintro e w1 ⟨rfl, hw1⟩; replace hI := hI.call hw1; clear hw1))
    go_ret
    exact ⟨rfl, hI.below⟩
  have hb : decide ((200 : Int) < (len : Int)) = false := by simp; omega
  have hl200 : len ≤ 200 := by omega
  have hcap := capF_range size
  clear hbig
  go_enter Try.func14, Try.ntmps14
  go_upto_region 6 with (first | ((with_reducible refine wpList_on  (by with_unfolding_all rfl) ?_)) | (go_at_call 21; refine (fit08 _).mono ?_; rintro e w1 ⟨rfl, hw1⟩; replace hI := hI.call hw1; clear hw1) | (go_at_call 22; refine (new_bx _ size).mono ?_; rintro e w1 ⟨pb, c, rfl, hJ⟩; replace hI := hI.seq hJ; simp only [List.cons_append, List.nil_append] at hI; clear hJ))
  clear hb
  obtain ⟨cap, hce⟩ : ∃ cap, capF size = cap := ⟨_, rfl⟩
  rw [hce] at hI hcap
  obtain ⟨hc1, hc64⟩ := hcap
  go_cut [6] (fun u wx => u = .int .i64 cap ∧ Inv [] w0 wx [bxr pb c cap []])
  case first =>
    by_cases h1 : size < 1
    · have hcc : cap = 1 := by rw [← hce]; unfold capF; rw [if_pos h1]
      subst hcc
      clear hce
      go_wp2_with (first | ((with_reducible refine wpList_on  (by with_unfolding_all rfl) ?_)))
      go_meet
      exact ⟨rfl, hI⟩
    · by_cases h2 : 64 < size
      · have hcc : cap = 64 := by rw [← hce]; unfold capF; rw [if_neg h1, if_pos h2]
        subst hcc
        have h3 : (1 : Int) < size := by omega
        clear hce
        go_wp2_with (first | ((with_reducible refine wpList_on  (by with_unfolding_all rfl) ?_)))
        go_meet
        exact ⟨rfl, hI⟩
      · have hcc : size = (cap : Int) := by
          rw [← hce]; unfold capF; rw [if_neg h1, if_neg h2]; omega
        subst hcc
        clear hce
        go_wp2_with (first | ((with_reducible refine wpList_on  (by with_unfolding_all rfl) ?_)))
        go_meet
        exact ⟨rfl, hI⟩
  case rest =>
    clear hI hce

    obtain ⟨rfl, hI⟩ := hcut
    replace hI := hI.nilOrr
    go_wp2_with fail
    go_loopg [7, 9, 10, 11, 12, 13, 26] len (fun kk s7 s9 s10 s11 s12 s13 i wr => ∃ (j : Nat) (qs : List (Option Addr × Nat × List UInt8)) (ms : List (List UInt8)) (am : Option Addr) (cm : Nat), kk = len - j ∧ j ≤ len ∧ i = .int .i64 j ∧ s7 = .slice am ms.length cm ∧ Hid (qs.map (·.2.2) = ms ∧ ms.length ≤ cap ∧ ∀ b ∈ ms, b.length ≤ 100) ∧
      Inv [] w0 wr [rwr (.slice am ms.length cm) (ms.map sv), bxr pb c cap qs])
    case atStart => exact ⟨0, [], [], none, 0, by omega, by omega, rfl, rfl, Lib.hid ⟨rfl, by simp, by simp⟩, hI⟩
    case round =>
      clear hI
      obtain ⟨j, qs, ms, am, cm, rfl, hj, rfl, rfl, hG, hI⟩ := hrel
      by_cases hlj : j < len
      · obtain ⟨hrj, hbr, b, off, rfl, hcell⟩ := h.row j hlj
        clear h
        generalize ra j = aj at *
        generalize rc j = cj at *
        generalize rb j = bj at *
        generalize rk j = kj at *
        replace hrj : Rd w0 aj (bj.map bv) := hrj
        by_cases h50 : 100 < bj.length
        · have hb50 : decide ((100 : Int) < (bj.length : Int)) = true := by simp; omega
          clear h50
          go_wp2_with (first | ((with_reducible refine wpList_on  (by with_unfolding_all rfl) ?_)) | ((with_reducible refine wpList_load_arg hI (by with_unfolding_all rfl) hcell (by simp) (by with_unfolding_all exact agg57) ?_)) | ((with_reducible refine wpList_alloc hI (by first | with_reducible exact zero57) (by with_unfolding_all rfl) ?_); clear hI; intro bx w hI) | ((with_reducible refine wpList_store hI (by with_unfolding_all rfl) (by with_unfolding_all rfl) (by first | with_reducible exact uu0 | with_reducible exact uu1 | with_reducible exact uu2 | with_reducible exact uu3 | with_reducible exact uu4 | with_reducible exact uu5 | with_reducible exact uu6 | with_reducible exact uu7 | with_reducible exact uu8 | with_reducible exact uu9) (by first | with_reducible exact agg57.size | with_reducible exact one3.size | with_reducible exact one22.size) (by with_unfolding_all rfl) (by simp) (by simp [Value.oneCell']) ?_); clear hI; intro w hI; simp only [splice, List.drop_succ_cons, List.drop_zero, List.take_succ_cons, List.take_zero, List.length_cons, List.length_nil, Nat.zero_add, Nat.reduceAdd, List.nil_append, List.cons_append, List.append_nil, List.drop_nil] at hI) | ((with_reducible refine wpList_load_one hI (by with_unfolding_all rfl) (by first | with_reducible exact mm0 | with_reducible exact mm1 | with_reducible exact mm2 | with_reducible exact mm3 | with_reducible exact mm4 | with_reducible exact mm5 | with_reducible exact mm6 | with_reducible exact mm7 | with_reducible exact mm8 | with_reducible exact mm9) (by first | with_reducible exact one3 | with_reducible exact one22) (by with_unfolding_all rfl) ?_)))
          go_ret
          exact ⟨rfl, hI.below⟩
        have hb50 : decide ((100 : Int) < (bj.length : Int)) = false := by simp; omega
        have hbl : bj.length ≤ 100000 := by omega
        have hbl1 : bj.length ≤ 100 := by omega
        clear h50
        obtain ⟨z, hz⟩ : ∃ z, kj.tmod 6 = z := ⟨_, rfl⟩
        have hz1 : -6 < z := by rw [← hz]; exact Int.lt_tmod_of_pos kj (by decide)
        have hz2 : z < 6 := by rw [← hz]; exact Int.tmod_lt_of_pos kj (by decide)
        obtain ⟨d, hd⟩ : ∃ d, (z + 6).tmod 6 = d := ⟨_, rfl⟩
        go_upto_block 2 with (first | ((with_reducible refine wpList_on  (by with_unfolding_all rfl) ?_)) | ((with_reducible refine wpList_load_arg hI (by with_unfolding_all rfl) hcell (by simp) (by with_unfolding_all exact agg57) ?_)) | ((with_reducible refine wpList_alloc hI (by first | with_reducible exact zero57) (by with_unfolding_all rfl) ?_); clear hI; intro bx w hI) | ((with_reducible refine wpList_store hI (by with_unfolding_all rfl) (by with_unfolding_all rfl) (by first | with_reducible exact uu0 | with_reducible exact uu1 | with_reducible exact uu2 | with_reducible exact uu3 | with_reducible exact uu4 | with_reducible exact uu5 | with_reducible exact uu6 | with_reducible exact uu7 | with_reducible exact uu8 | with_reducible exact uu9) (by first | with_reducible exact agg57.size | with_reducible exact one3.size | with_reducible exact one22.size) (by with_unfolding_all rfl) (by simp) (by simp [Value.oneCell']) ?_); clear hI; intro w hI; simp only [splice, List.drop_succ_cons, List.drop_zero, List.take_succ_cons, List.take_zero, List.length_cons, List.length_nil, Nat.zero_add, Nat.reduceAdd, List.nil_append, List.cons_append, List.append_nil, List.drop_nil] at hI) | ((with_reducible refine wpList_load_one hI (by with_unfolding_all rfl) (by first | with_reducible exact mm0 | with_reducible exact mm1 | with_reducible exact mm2 | with_reducible exact mm3 | with_reducible exact mm4 | with_reducible exact mm5 | with_reducible exact mm6 | with_reducible exact mm7 | with_reducible exact mm8 | with_reducible exact mm9) (by first | with_reducible exact one3 | with_reducible exact one22) (by with_unfolding_all rfl) ?_)))
        clear hz hd hz1 hz2
        go_cut [7] (fun u wx => ∃ (qs : List (Option Addr × Nat × List UInt8)) (ms : List (List UInt8)) (am : Option Addr) (cm : Nat), u = .slice am ms.length cm ∧ Hid (qs.map (·.2.2) = ms ∧ ms.length ≤ cap ∧ ∀ b ∈ ms, b.length ≤ 100) ∧
      Inv [] w0 wx [rwr (.slice am ms.length cm) (ms.map sv), bxr pb c cap qs])
        case rest =>
          clear hI hG
          obtain ⟨qs, ms, am, cm, rfl, hG, hI⟩ := hcut
          have hlq : qs.length = ms.length := by have := congrArg List.length hG.out.1; simpa using this
          have hlq2 : ((qs.length : Int) == (ms.length : Int)) = true := by simp [hlq]
          replace hlq := Lib.hid hlq
          go_wp2_with (first | ((with_reducible refine wpList_on  (by with_unfolding_all rfl) ?_)) | (go_at_call 27; refine (len_bx _ pb c cap _ (hI.sat _ (by (first | with_reducible exact mm0 | with_reducible exact mm1 | with_reducible exact mm2 | with_reducible exact mm3 | with_reducible exact mm4 | with_reducible exact mm5 | with_reducible exact mm6 | with_reducible exact mm7 | with_reducible exact mm8 | with_reducible exact mm9)))).mono ?_; rintro e w1 ⟨rfl, hw⟩; rw [hw]; clear hw))
          go_roundg (len - (j + 1))
          case measure => omega
          case rel => exact ⟨j + 1, qs, ms, am, cm, by omega, by omega, by go_num, rfl, hG, hI⟩
        by_cases hk5 : d = 5
        · subst hk5
          have hG2 : Hid (([] : List (Option Addr × Nat × List UInt8)).map (·.2.2) = [] ∧ ([] : List (List UInt8)).length ≤ cap ∧ ∀ b ∈ ([] : List (List UInt8)), b.length ≤ 100) := Lib.hid ⟨rfl, by simp, by simp⟩
          go_wp2_with (first | ((with_reducible refine wpList_on  (by with_unfolding_all rfl) ?_)) | ((with_reducible refine wpList_load_arg hI (by with_unfolding_all rfl) hcell (by simp) (by with_unfolding_all exact agg57) ?_)) | ((with_reducible refine wpList_alloc hI (by first | with_reducible exact zero57) (by with_unfolding_all rfl) ?_); clear hI; intro bx w hI) | ((with_reducible refine wpList_store hI (by with_unfolding_all rfl) (by with_unfolding_all rfl) (by first | with_reducible exact uu0 | with_reducible exact uu1 | with_reducible exact uu2 | with_reducible exact uu3 | with_reducible exact uu4 | with_reducible exact uu5 | with_reducible exact uu6 | with_reducible exact uu7 | with_reducible exact uu8 | with_reducible exact uu9) (by first | with_reducible exact agg57.size | with_reducible exact one3.size | with_reducible exact one22.size) (by with_unfolding_all rfl) (by simp) (by simp [Value.oneCell']) ?_); clear hI; intro w hI; simp only [splice, List.drop_succ_cons, List.drop_zero, List.take_succ_cons, List.take_zero, List.length_cons, List.length_nil, Nat.zero_add, Nat.reduceAdd, List.nil_append, List.cons_append, List.append_nil, List.drop_nil] at hI) | ((with_reducible refine wpList_load_one hI (by with_unfolding_all rfl) (by first | with_reducible exact mm0 | with_reducible exact mm1 | with_reducible exact mm2 | with_reducible exact mm3 | with_reducible exact mm4 | with_reducible exact mm5 | with_reducible exact mm6 | with_reducible exact mm7 | with_reducible exact mm8 | with_reducible exact mm9) (by first | with_reducible exact one3 | with_reducible exact one22) (by with_unfolding_all rfl) ?_)) | (go_at_call 36; refine (clear_bx _ pb c cap qs (hI.sat _ (by (first | with_reducible exact mm0 | with_reducible exact mm1 | with_reducible exact mm2 | with_reducible exact mm3 | with_reducible exact mm4 | with_reducible exact mm5 | with_reducible exact mm6 | with_reducible exact mm7 | with_reducible exact mm8 | with_reducible exact mm9))) (hI.nd (by (first | with_reducible exact mm0 | with_reducible exact mm1 | with_reducible exact mm2 | with_reducible exact mm3 | with_reducible exact mm4 | with_reducible exact mm5 | with_reducible exact mm6 | with_reducible exact mm7 | with_reducible exact mm8 | with_reducible exact mm9)))).mono ?_; rintro e w1 ⟨rfl, hJ⟩; replace hI := hI.on hJ (by (first | with_reducible exact uu0 | with_reducible exact uu1 | with_reducible exact uu2 | with_reducible exact uu3 | with_reducible exact uu4 | with_reducible exact uu5 | with_reducible exact uu6 | with_reducible exact uu7 | with_reducible exact uu8 | with_reducible exact uu9)); clear hJ))
          go_meet
          exact ⟨[], [], none, 0, rfl, hG2, hI.nilOrr.sub (.cons_cons _ (.cons _ (.cons _ (.refl _))))⟩
        by_cases hk2 : d = 2
        · subst hk2
          clear hk5
          rcases ms with _ | ⟨m0, mt⟩
          · obtain rfl := hg_nil hG
            go_upto_region 21 with (first | ((with_reducible refine wpList_on  (by with_unfolding_all rfl) ?_)) | (go_at_call 25; refine (take_bx0 _ pb c cap (hI.sat _ (by (first | with_reducible exact mm0 | with_reducible exact mm1 | with_reducible exact mm2 | with_reducible exact mm3 | with_reducible exact mm4 | with_reducible exact mm5 | with_reducible exact mm6 | with_reducible exact mm7 | with_reducible exact mm8 | with_reducible exact mm9)))).mono ?_; rintro e w1 ⟨rfl, hw⟩; rw [hw]; clear hw))
            (replace hI := hI.drew; refine wp_region_one [ ] mixed (by kernel_rfl) ?_; (generalize hwd : World.drew _ = wd at hI ⊢; clear hwd))
            (repeat (first | ((with_reducible refine wpReg_skip (by with_unfolding_all rfl) ?_); simp only [Act.put, List.setIfInBounds_toArray, List.set_cons_succ, List.set_cons_zero]) | ((with_reducible refine wpReg_one (by with_unfolding_all rfl) (by with_unfolding_all rfl) (by with_unfolding_all rfl) (by with_unfolding_all rfl) (fun _ => trivial) ?_); go_wp2_with (first | ((with_reducible refine wpList_on  (by with_unfolding_all rfl) ?_)) | ((with_reducible refine wpList_load_iw hI (by with_unfolding_all rfl) (by first | with_reducible exact mm0 | with_reducible exact mm1 | with_reducible exact mm2 | with_reducible exact mm3 | with_reducible exact mm4 | with_reducible exact mm5 | with_reducible exact mm6 | with_reducible exact mm7 | with_reducible exact mm8 | with_reducible exact mm9) (by first | with_reducible exact agg57) (by (repeat (first | rw [List.length_set] | rw [nau_len] | rw [sub_len] | rw [spl_len])) <;> omega) ?_)) | ((with_reducible refine wpList_load_ia hI (by with_unfolding_all rfl) (by first | with_reducible exact mm0 | with_reducible exact mm1 | with_reducible exact mm2 | with_reducible exact mm3 | with_reducible exact mm4 | with_reducible exact mm5 | with_reducible exact mm6 | with_reducible exact mm7 | with_reducible exact mm8 | with_reducible exact mm9) (by first | with_reducible exact agg57) (by (repeat (first | rw [List.length_set] | rw [nau_len] | rw [sub_len] | rw [spl_len])) <;> omega) ?_)) | ((with_reducible refine wpList_load_i1 hI (by with_unfolding_all rfl) (by first | with_reducible exact mm0 | with_reducible exact mm1 | with_reducible exact mm2 | with_reducible exact mm3 | with_reducible exact mm4 | with_reducible exact mm5 | with_reducible exact mm6 | with_reducible exact mm7 | with_reducible exact mm8 | with_reducible exact mm9) (by first | with_reducible exact one3 | with_reducible exact one22) (by (repeat (first | rw [List.length_set] | rw [nau_len] | rw [sub_len] | rw [spl_len])) <;> omega) ?_)) | ((with_reducible refine wpList_store_iw hI (by with_unfolding_all rfl) (by with_unfolding_all rfl) (by first | with_reducible exact uu0 | with_reducible exact uu1 | with_reducible exact uu2 | with_reducible exact uu3 | with_reducible exact uu4 | with_reducible exact uu5 | with_reducible exact uu6 | with_reducible exact uu7 | with_reducible exact uu8 | with_reducible exact uu9) (by first | with_reducible exact agg57) (by (repeat (first | rw [List.length_set] | rw [nau_len] | rw [sub_len] | rw [spl_len])) <;> omega) (by (repeat (first | rw [List.length_set] | rw [nau_len] | rw [sub_len] | rw [spl_len])) <;> omega) ?_); clear hI; intro w hI) | ((with_reducible refine wpList_store_ia hI (by with_unfolding_all rfl) (by with_unfolding_all rfl) (by first | with_reducible exact uu0 | with_reducible exact uu1 | with_reducible exact uu2 | with_reducible exact uu3 | with_reducible exact uu4 | with_reducible exact uu5 | with_reducible exact uu6 | with_reducible exact uu7 | with_reducible exact uu8 | with_reducible exact uu9) (by first | with_reducible exact agg57) (by (repeat (first | rw [List.length_set] | rw [nau_len] | rw [sub_len] | rw [spl_len])) <;> omega) (by (repeat (first | rw [List.length_set] | rw [nau_len] | rw [sub_len] | rw [spl_len])) <;> omega) ?_); clear hI; intro w hI) | ((with_reducible refine wpList_store_i1 hI (by with_unfolding_all rfl) (by with_unfolding_all rfl) (by first | with_reducible exact uu0 | with_reducible exact uu1 | with_reducible exact uu2 | with_reducible exact uu3 | with_reducible exact uu4 | with_reducible exact uu5 | with_reducible exact uu6 | with_reducible exact uu7 | with_reducible exact uu8 | with_reducible exact uu9) (by first | with_reducible exact one3 | with_reducible exact one22) (by (repeat (first | rw [List.length_set] | rw [nau_len] | rw [sub_len] | rw [spl_len])) <;> omega) ?_); clear hI; intro w hI) | ((with_reducible refine wpList_store_b hI (by with_unfolding_all rfl) (by with_unfolding_all rfl) (by first | with_reducible exact uu0 | with_reducible exact uu1 | with_reducible exact uu2 | with_reducible exact uu3 | with_reducible exact uu4 | with_reducible exact uu5 | with_reducible exact uu6 | with_reducible exact uu7 | with_reducible exact uu8 | with_reducible exact uu9) (by first | with_reducible exact one3 | with_reducible exact one22) (by simp) ?_); clear hI; intro w hI; simp only [List.set_cons_zero, List.set_cons_succ] at hI) | ((with_reducible refine wpList_store_p hI (by with_unfolding_all rfl) (by with_unfolding_all rfl) (by first | with_reducible exact uu0 | with_reducible exact uu1 | with_reducible exact uu2 | with_reducible exact uu3 | with_reducible exact uu4 | with_reducible exact uu5 | with_reducible exact uu6 | with_reducible exact uu7 | with_reducible exact uu8 | with_reducible exact uu9) (by first | with_reducible exact one3 | with_reducible exact one22) (by simp) ?_); clear hI; intro w hI; simp only [List.set_cons_zero, List.set_cons_succ] at hI) | ((with_reducible refine wpList_store_s hI (by with_unfolding_all rfl) (by with_unfolding_all rfl) (by first | with_reducible exact uu0 | with_reducible exact uu1 | with_reducible exact uu2 | with_reducible exact uu3 | with_reducible exact uu4 | with_reducible exact uu5 | with_reducible exact uu6 | with_reducible exact uu7 | with_reducible exact uu8 | with_reducible exact uu9) (by first | with_reducible exact one3 | with_reducible exact one22) (by simp) ?_); clear hI; intro w hI; simp only [List.set_cons_zero, List.set_cons_succ] at hI) | ((with_reducible refine wpList_box_ia hI (by with_unfolding_all rfl) ?_); clear hI; intro bx w hI) | ((with_reducible refine wpList_alloc_ia hI (by first | with_reducible exact zi57) ?_); clear hI; intro bx w hI) | ((with_reducible refine wpList_eq_ia  (by with_unfolding_all rfl) (by with_unfolding_all rfl) (by first | with_reducible exact agg57) (by first | with_reducible exact flatT57) (by (repeat (first | rw [List.length_set] | rw [nau_len] | rw [sub_len] | rw [spl_len])) <;> omega) (by (repeat (first | rw [List.length_set] | rw [nau_len] | rw [sub_len] | rw [spl_len])) <;> omega) ?_)) | ((with_reducible refine wpList_ne_ia  (by with_unfolding_all rfl) (by with_unfolding_all rfl) (by first | with_reducible exact agg57) (by first | with_reducible exact flatT57) (by (repeat (first | rw [List.length_set] | rw [nau_len] | rw [sub_len] | rw [spl_len])) <;> omega) (by (repeat (first | rw [List.length_set] | rw [nau_len] | rw [sub_len] | rw [spl_len])) <;> omega) ?_)) | ((with_reducible refine wpList_index_ia  (by with_unfolding_all rfl) (by with_unfolding_all rfl) (by first | with_reducible exact arr0) (by first | with_reducible exact agg57) (by omega) (by omega) ?_)) | ((with_reducible refine wpList_index_i1  (by with_unfolding_all rfl) (by with_unfolding_all rfl) (by first | with_reducible exact arr0) (by first | with_reducible exact one3 | with_reducible exact one22) (by omega) (by omega) (by (repeat (first | rw [List.length_set] | rw [nau_len] | rw [sub_len] | rw [spl_len])) <;> omega) ?_)) | ((with_reducible refine wpList_build0_ia  (by first | with_reducible exact zi57) (by first | with_reducible exact kn57) ?_)) | fail | ((with_reducible refine wpList_on  (by with_unfolding_all rfl) ?_)) | ((with_reducible refine wpList_load_agg hI (by with_unfolding_all rfl) (by first | with_reducible exact mm0 | with_reducible exact mm1 | with_reducible exact mm2 | with_reducible exact mm3 | with_reducible exact mm4 | with_reducible exact mm5 | with_reducible exact mm6 | with_reducible exact mm7 | with_reducible exact mm8 | with_reducible exact mm9) (by first | with_reducible exact agg57) (by simp) ?_); simp only [List.drop_succ_cons, List.drop_zero, List.take_succ_cons, List.take_zero]) | ((with_reducible refine wpList_load_one hI (by with_unfolding_all rfl) (by first | with_reducible exact mm0 | with_reducible exact mm1 | with_reducible exact mm2 | with_reducible exact mm3 | with_reducible exact mm4 | with_reducible exact mm5 | with_reducible exact mm6 | with_reducible exact mm7 | with_reducible exact mm8 | with_reducible exact mm9) (by first | with_reducible exact one3 | with_reducible exact one22) (by with_unfolding_all rfl) ?_)) | ((with_reducible refine wpList_store hI (by with_unfolding_all rfl) (by with_unfolding_all rfl) (by first | with_reducible exact uu0 | with_reducible exact uu1 | with_reducible exact uu2 | with_reducible exact uu3 | with_reducible exact uu4 | with_reducible exact uu5 | with_reducible exact uu6 | with_reducible exact uu7 | with_reducible exact uu8 | with_reducible exact uu9) (by first | with_reducible exact agg57.size | with_reducible exact one3.size | with_reducible exact one22.size) (by with_unfolding_all rfl) (by simp) (by simp [Value.oneCell']) ?_); clear hI; intro w hI; simp only [splice, List.drop_succ_cons, List.drop_zero, List.take_succ_cons, List.take_zero, List.length_cons, List.length_nil, Nat.zero_add, Nat.reduceAdd, List.nil_append, List.cons_append, List.append_nil, List.drop_nil] at hI) | ((with_reducible refine wpList_box hI (by with_unfolding_all rfl) ?_); clear hI; intro bx w hI) | ((with_reducible refine wpList_alloc hI (by first | with_reducible exact zero57) (by with_unfolding_all rfl) ?_); clear hI; intro bx w hI) | ((with_reducible refine wpList_eql  (by with_unfolding_all rfl) (by with_unfolding_all rfl) (by first | with_reducible exact agg57) (by first | with_reducible exact flatT57) (by simp [isI, iv]) (by simp [isI, iv]) (by with_unfolding_all rfl) (by with_unfolding_all rfl) ?_)) | ((with_reducible refine wpList_neq  (by with_unfolding_all rfl) (by with_unfolding_all rfl) (by first | with_reducible exact agg57) (by first | with_reducible exact flatT57) (by simp [isI, iv]) (by simp [isI, iv]) (by with_unfolding_all rfl) (by with_unfolding_all rfl) ?_)) | fail | (with_reducible refine wpList_tostr Try.underlying22 Try.underlying5 Try.underlying9 (by with_unfolding_all rfl) (hI.rd (by (first | with_reducible exact mm0 | with_reducible exact mm1 | with_reducible exact mm2 | with_reducible exact mm3 | with_reducible exact mm4 | with_reducible exact mm5 | with_reducible exact mm6 | with_reducible exact mm7 | with_reducible exact mm8 | with_reducible exact mm9))) rfl ?_) | (with_reducible refine wpList_load_rw hI (by with_unfolding_all rfl) (by (first | with_reducible exact mm0 | with_reducible exact mm1 | with_reducible exact mm2 | with_reducible exact mm3 | with_reducible exact mm4 | with_reducible exact mm5 | with_reducible exact mm6 | with_reducible exact mm7 | with_reducible exact mm8 | with_reducible exact mm9)) one9 ?_)); refine ⟨rfl, ?_⟩; (try simp only [Act.put, List.setIfInBounds_toArray, List.set_cons_succ, List.set_cons_zero])) | ((with_reducible apply wpReg_pure); rfl; rfl; (focus (intro D w hD hE; go_wp2_with (first | fail); (try simp only [Act.put, List.setIfInBounds_toArray, List.set_cons_succ, List.set_cons_zero]); exact ⟨rfl, rfl, hD⟩)); (first | exact ⟨_, rfl⟩ | exact ⟨undef, rfl⟩)) | ((with_reducible refine wpReg_look (by with_unfolding_all rfl) (by with_unfolding_all rfl) (by with_unfolding_all rfl) ?_); go_wp2_with (first | ((with_reducible refine wpList_on  (by with_unfolding_all rfl) ?_)) | ((with_reducible refine wpList_load_iw hI (by with_unfolding_all rfl) (by first | with_reducible exact mm0 | with_reducible exact mm1 | with_reducible exact mm2 | with_reducible exact mm3 | with_reducible exact mm4 | with_reducible exact mm5 | with_reducible exact mm6 | with_reducible exact mm7 | with_reducible exact mm8 | with_reducible exact mm9) (by first | with_reducible exact agg57) (by (repeat (first | rw [List.length_set] | rw [nau_len] | rw [sub_len] | rw [spl_len])) <;> omega) ?_)) | ((with_reducible refine wpList_load_ia hI (by with_unfolding_all rfl) (by first | with_reducible exact mm0 | with_reducible exact mm1 | with_reducible exact mm2 | with_reducible exact mm3 | with_reducible exact mm4 | with_reducible exact mm5 | with_reducible exact mm6 | with_reducible exact mm7 | with_reducible exact mm8 | with_reducible exact mm9) (by first | with_reducible exact agg57) (by (repeat (first | rw [List.length_set] | rw [nau_len] | rw [sub_len] | rw [spl_len])) <;> omega) ?_)) | ((with_reducible refine wpList_load_i1 hI (by with_unfolding_all rfl) (by first | with_reducible exact mm0 | with_reducible exact mm1 | with_reducible exact mm2 | with_reducible exact mm3 | with_reducible exact mm4 | with_reducible exact mm5 | with_reducible exact mm6 | with_reducible exact mm7 | with_reducible exact mm8 | with_reducible exact mm9) (by first | with_reducible exact one3 | with_reducible exact one22) (by (repeat (first | rw [List.length_set] | rw [nau_len] | rw [sub_len] | rw [spl_len])) <;> omega) ?_)) | ((with_reducible refine wpList_store_iw hI (by with_unfolding_all rfl) (by with_unfolding_all rfl) (by first | with_reducible exact uu0 | with_reducible exact uu1 | with_reducible exact uu2 | with_reducible exact uu3 | with_reducible exact uu4 | with_reducible exact uu5 | with_reducible exact uu6 | with_reducible exact uu7 | with_reducible exact uu8 | with_reducible exact uu9) (by first | with_reducible exact agg57) (by (repeat (first | rw [List.length_set] | rw [nau_len] | rw [sub_len] | rw [spl_len])) <;> omega) (by (repeat (first | rw [List.length_set] | rw [nau_len] | rw [sub_len] | rw [spl_len])) <;> omega) ?_); clear hI; intro w hI) | ((with_reducible refine wpList_store_ia hI (by with_unfolding_all rfl) (by with_unfolding_all rfl) (by first | with_reducible exact uu0 | with_reducible exact uu1 | with_reducible exact uu2 | with_reducible exact uu3 | with_reducible exact uu4 | with_reducible exact uu5 | with_reducible exact uu6 | with_reducible exact uu7 | with_reducible exact uu8 | with_reducible exact uu9) (by first | with_reducible exact agg57) (by (repeat (first | rw [List.length_set] | rw [nau_len] | rw [sub_len] | rw [spl_len])) <;> omega) (by (repeat (first | rw [List.length_set] | rw [nau_len] | rw [sub_len] | rw [spl_len])) <;> omega) ?_); clear hI; intro w hI) | ((with_reducible refine wpList_store_i1 hI (by with_unfolding_all rfl) (by with_unfolding_all rfl) (by first | with_reducible exact uu0 | with_reducible exact uu1 | with_reducible exact uu2 | with_reducible exact uu3 | with_reducible exact uu4 | with_reducible exact uu5 | with_reducible exact uu6 | with_reducible exact uu7 | with_reducible exact uu8 | with_reducible exact uu9) (by first | with_reducible exact one3 | with_reducible exact one22) (by (repeat (first | rw [List.length_set] | rw [nau_len] | rw [sub_len] | rw [spl_len])) <;> omega) ?_); clear hI; intro w hI) | ((with_reducible refine wpList_store_b hI (by with_unfolding_all rfl) (by with_unfolding_all rfl) (by first | with_reducible exact uu0 | with_reducible exact uu1 | with_reducible exact uu2 | with_reducible exact uu3 | with_reducible exact uu4 | with_reducible exact uu5 | with_reducible exact uu6 | with_reducible exact uu7 | with_reducible exact uu8 | with_reducible exact uu9) (by first | with_reducible exact one3 | with_reducible exact one22) (by simp) ?_); clear hI; intro w hI; simp only [List.set_cons_zero, List.set_cons_succ] at hI) | ((with_reducible refine wpList_store_p hI (by with_unfolding_all rfl) (by with_unfolding_all rfl) (by first | with_reducible exact uu0 | with_reducible exact uu1 | with_reducible exact uu2 | with_reducible exact uu3 | with_reducible exact uu4 | with_reducible exact uu5 | with_reducible exact uu6 | with_reducible exact uu7 | with_reducible exact uu8 | with_reducible exact uu9) (by first | with_reducible exact one3 | with_reducible exact one22) (by simp) ?_); clear hI; intro w hI; simp only [List.set_cons_zero, List.set_cons_succ] at hI) | ((with_reducible refine wpList_store_s hI (by with_unfolding_all rfl) (by with_unfolding_all rfl) (by first | with_reducible exact uu0 | with_reducible exact uu1 | with_reducible exact uu2 | with_reducible exact uu3 | with_reducible exact uu4 | with_reducible exact uu5 | with_reducible exact uu6 | with_reducible exact uu7 | with_reducible exact uu8 | with_reducible exact uu9) (by first | with_reducible exact one3 | with_reducible exact one22) (by simp) ?_); clear hI; intro w hI; simp only [List.set_cons_zero, List.set_cons_succ] at hI) | ((with_reducible refine wpList_box_ia hI (by with_unfolding_all rfl) ?_); clear hI; intro bx w hI) | ((with_reducible refine wpList_alloc_ia hI (by first | with_reducible exact zi57) ?_); clear hI; intro bx w hI) | ((with_reducible refine wpList_eq_ia  (by with_unfolding_all rfl) (by with_unfolding_all rfl) (by first | with_reducible exact agg57) (by first | with_reducible exact flatT57) (by (repeat (first | rw [List.length_set] | rw [nau_len] | rw [sub_len] | rw [spl_len])) <;> omega) (by (repeat (first | rw [List.length_set] | rw [nau_len] | rw [sub_len] | rw [spl_len])) <;> omega) ?_)) | ((with_reducible refine wpList_ne_ia  (by with_unfolding_all rfl) (by with_unfolding_all rfl) (by first | with_reducible exact agg57) (by first | with_reducible exact flatT57) (by (repeat (first | rw [List.length_set] | rw [nau_len] | rw [sub_len] | rw [spl_len])) <;> omega) (by (repeat (first | rw [List.length_set] | rw [nau_len] | rw [sub_len] | rw [spl_len])) <;> omega) ?_)) | ((with_reducible refine wpList_index_ia  (by with_unfolding_all rfl) (by with_unfolding_all rfl) (by first | with_reducible exact arr0) (by first | with_reducible exact agg57) (by omega) (by omega) ?_)) | ((with_reducible refine wpList_index_i1  (by with_unfolding_all rfl) (by with_unfolding_all rfl) (by first | with_reducible exact arr0) (by first | with_reducible exact one3 | with_reducible exact one22) (by omega) (by omega) (by (repeat (first | rw [List.length_set] | rw [nau_len] | rw [sub_len] | rw [spl_len])) <;> omega) ?_)) | ((with_reducible refine wpList_build0_ia  (by first | with_reducible exact zi57) (by first | with_reducible exact kn57) ?_)) | fail | ((with_reducible refine wpList_on  (by with_unfolding_all rfl) ?_)) | ((with_reducible refine wpList_load_agg hI (by with_unfolding_all rfl) (by first | with_reducible exact mm0 | with_reducible exact mm1 | with_reducible exact mm2 | with_reducible exact mm3 | with_reducible exact mm4 | with_reducible exact mm5 | with_reducible exact mm6 | with_reducible exact mm7 | with_reducible exact mm8 | with_reducible exact mm9) (by first | with_reducible exact agg57) (by simp) ?_); simp only [List.drop_succ_cons, List.drop_zero, List.take_succ_cons, List.take_zero]) | ((with_reducible refine wpList_load_one hI (by with_unfolding_all rfl) (by first | with_reducible exact mm0 | with_reducible exact mm1 | with_reducible exact mm2 | with_reducible exact mm3 | with_reducible exact mm4 | with_reducible exact mm5 | with_reducible exact mm6 | with_reducible exact mm7 | with_reducible exact mm8 | with_reducible exact mm9) (by first | with_reducible exact one3 | with_reducible exact one22) (by with_unfolding_all rfl) ?_)) | ((with_reducible refine wpList_store hI (by with_unfolding_all rfl) (by with_unfolding_all rfl) (by first | with_reducible exact uu0 | with_reducible exact uu1 | with_reducible exact uu2 | with_reducible exact uu3 | with_reducible exact uu4 | with_reducible exact uu5 | with_reducible exact uu6 | with_reducible exact uu7 | with_reducible exact uu8 | with_reducible exact uu9) (by first | with_reducible exact agg57.size | with_reducible exact one3.size | with_reducible exact one22.size) (by with_unfolding_all rfl) (by simp) (by simp [Value.oneCell']) ?_); clear hI; intro w hI; simp only [splice, List.drop_succ_cons, List.drop_zero, List.take_succ_cons, List.take_zero, List.length_cons, List.length_nil, Nat.zero_add, Nat.reduceAdd, List.nil_append, List.cons_append, List.append_nil, List.drop_nil] at hI) | ((with_reducible refine wpList_box hI (by with_unfolding_all rfl) ?_); clear hI; intro bx w hI) | ((with_reducible refine wpList_alloc hI (by first | with_reducible exact zero57) (by with_unfolding_all rfl) ?_); clear hI; intro bx w hI) | ((with_reducible refine wpList_eql  (by with_unfolding_all rfl) (by with_unfolding_all rfl) (by first | with_reducible exact agg57) (by first | with_reducible exact flatT57) (by simp [isI, iv]) (by simp [isI, iv]) (by with_unfolding_all rfl) (by with_unfolding_all rfl) ?_)) | ((with_reducible refine wpList_neq  (by with_unfolding_all rfl) (by with_unfolding_all rfl) (by first | with_reducible exact agg57) (by first | with_reducible exact flatT57) (by simp [isI, iv]) (by simp [isI, iv]) (by with_unfolding_all rfl) (by with_unfolding_all rfl) ?_)) | fail | (with_reducible refine wpList_tostr Try.underlying22 Try.underlying5 Try.underlying9 (by with_unfolding_all rfl) (hI.rd (by (first | with_reducible exact mm0 | with_reducible exact mm1 | with_reducible exact mm2 | with_reducible exact mm3 | with_reducible exact mm4 | with_reducible exact mm5 | with_reducible exact mm6 | with_reducible exact mm7 | with_reducible exact mm8 | with_reducible exact mm9))) rfl ?_) | (with_reducible refine wpList_load_rw hI (by with_unfolding_all rfl) (by (first | with_reducible exact mm0 | with_reducible exact mm1 | with_reducible exact mm2 | with_reducible exact mm3 | with_reducible exact mm4 | with_reducible exact mm5 | with_reducible exact mm6 | with_reducible exact mm7 | with_reducible exact mm8 | with_reducible exact mm9)) one9 ?_)); refine ⟨rfl, rfl, ?_⟩; (try simp only [Act.put, List.setIfInBounds_toArray, List.set_cons_succ, List.set_cons_zero]))))
            ((with_reducible refine wpReg_nil ?_); rintro _ rfl; (try simp only [Act.put, List.setIfInBounds_toArray, List.set_cons_succ, List.set_cons_zero]))
            go_wp2_with fail
            go_meet
            exact ⟨[], [], am, cm, rfl, hG, hI.sub (.cons _ (.refl _))⟩
          · obtain ⟨a0, c0, qt, rfl, hG2⟩ := hg_cons hG
            clear hG
            have hp1 : decide ((0 : Int) < (mt.length : Int) + 1) = true := by simp only [decide_eq_true_eq]; omega
            simp only [List.map_cons, List.length_cons, sv] at hI
            go_upto_region 21 with (first | ((with_reducible refine wpList_on  (by with_unfolding_all rfl) ?_)) | (go_at_call 25; refine (take_bx _ pb c cap a0 c0 m0 qt (hI.sat _ (by (first | with_reducible exact mm0 | with_reducible exact mm1 | with_reducible exact mm2 | with_reducible exact mm3 | with_reducible exact mm4 | with_reducible exact mm5 | with_reducible exact mm6 | with_reducible exact mm7 | with_reducible exact mm8 | with_reducible exact mm9))) (hI.nd (by (first | with_reducible exact mm0 | with_reducible exact mm1 | with_reducible exact mm2 | with_reducible exact mm3 | with_reducible exact mm4 | with_reducible exact mm5 | with_reducible exact mm6 | with_reducible exact mm7 | with_reducible exact mm8 | with_reducible exact mm9)))).mono ?_; rintro e w1 ⟨rfl, hJ⟩; replace hI := hI.on2 hJ (by (first | with_reducible exact uu0 | with_reducible exact uu1 | with_reducible exact uu2 | with_reducible exact uu3 | with_reducible exact uu4 | with_reducible exact uu5 | with_reducible exact uu6 | with_reducible exact uu7 | with_reducible exact uu8 | with_reducible exact uu9)); clear hJ))
            obtain ⟨g, off2, rfl, -⟩ := hI.orr_some (x := Value.string ⟨m0.toArray⟩) (xs := mt.map sv) (n := mt.length + 1) (a := am) (c := cm) (by simp)
            (replace hI := hI.drew; refine wp_region_one [ ] mixed (by kernel_rfl) ?_; (generalize hwd : World.drew _ = wd at hI ⊢; clear hwd))
            (repeat (first | ((with_reducible refine wpReg_skip (by with_unfolding_all rfl) ?_); simp only [Act.put, List.setIfInBounds_toArray, List.set_cons_succ, List.set_cons_zero]) | ((with_reducible refine wpReg_one (by with_unfolding_all rfl) (by with_unfolding_all rfl) (by with_unfolding_all rfl) (by with_unfolding_all rfl) (fun _ => trivial) ?_); go_wp2_with (first | ((with_reducible refine wpList_on  (by with_unfolding_all rfl) ?_)) | ((with_reducible refine wpList_load_iw hI (by with_unfolding_all rfl) (by first | with_reducible exact mm0 | with_reducible exact mm1 | with_reducible exact mm2 | with_reducible exact mm3 | with_reducible exact mm4 | with_reducible exact mm5 | with_reducible exact mm6 | with_reducible exact mm7 | with_reducible exact mm8 | with_reducible exact mm9) (by first | with_reducible exact agg57) (by (repeat (first | rw [List.length_set] | rw [nau_len] | rw [sub_len] | rw [spl_len])) <;> omega) ?_)) | ((with_reducible refine wpList_load_ia hI (by with_unfolding_all rfl) (by first | with_reducible exact mm0 | with_reducible exact mm1 | with_reducible exact mm2 | with_reducible exact mm3 | with_reducible exact mm4 | with_reducible exact mm5 | with_reducible exact mm6 | with_reducible exact mm7 | with_reducible exact mm8 | with_reducible exact mm9) (by first | with_reducible exact agg57) (by (repeat (first | rw [List.length_set] | rw [nau_len] | rw [sub_len] | rw [spl_len])) <;> omega) ?_)) | ((with_reducible refine wpList_load_i1 hI (by with_unfolding_all rfl) (by first | with_reducible exact mm0 | with_reducible exact mm1 | with_reducible exact mm2 | with_reducible exact mm3 | with_reducible exact mm4 | with_reducible exact mm5 | with_reducible exact mm6 | with_reducible exact mm7 | with_reducible exact mm8 | with_reducible exact mm9) (by first | with_reducible exact one3 | with_reducible exact one22) (by (repeat (first | rw [List.length_set] | rw [nau_len] | rw [sub_len] | rw [spl_len])) <;> omega) ?_)) | ((with_reducible refine wpList_store_iw hI (by with_unfolding_all rfl) (by with_unfolding_all rfl) (by first | with_reducible exact uu0 | with_reducible exact uu1 | with_reducible exact uu2 | with_reducible exact uu3 | with_reducible exact uu4 | with_reducible exact uu5 | with_reducible exact uu6 | with_reducible exact uu7 | with_reducible exact uu8 | with_reducible exact uu9) (by first | with_reducible exact agg57) (by (repeat (first | rw [List.length_set] | rw [nau_len] | rw [sub_len] | rw [spl_len])) <;> omega) (by (repeat (first | rw [List.length_set] | rw [nau_len] | rw [sub_len] | rw [spl_len])) <;> omega) ?_); clear hI; intro w hI) | ((with_reducible refine wpList_store_ia hI (by with_unfolding_all rfl) (by with_unfolding_all rfl) (by first | with_reducible exact uu0 | with_reducible exact uu1 | with_reducible exact uu2 | with_reducible exact uu3 | with_reducible exact uu4 | with_reducible exact uu5 | with_reducible exact uu6 | with_reducible exact uu7 | with_reducible exact uu8 | with_reducible exact uu9) (by first | with_reducible exact agg57) (by (repeat (first | rw [List.length_set] | rw [nau_len] | rw [sub_len] | rw [spl_len])) <;> omega) (by (repeat (first | rw [List.length_set] | rw [nau_len] | rw [sub_len] | rw [spl_len])) <;> omega) ?_); clear hI; intro w hI) | ((with_reducible refine wpList_store_i1 hI (by with_unfolding_all rfl) (by with_unfolding_all rfl) (by first | with_reducible exact uu0 | with_reducible exact uu1 | with_reducible exact uu2 | with_reducible exact uu3 | with_reducible exact uu4 | with_reducible exact uu5 | with_reducible exact uu6 | with_reducible exact uu7 | with_reducible exact uu8 | with_reducible exact uu9) (by first | with_reducible exact one3 | with_reducible exact one22) (by (repeat (first | rw [List.length_set] | rw [nau_len] | rw [sub_len] | rw [spl_len])) <;> omega) ?_); clear hI; intro w hI) | ((with_reducible refine wpList_store_b hI (by with_unfolding_all rfl) (by with_unfolding_all rfl) (by first | with_reducible exact uu0 | with_reducible exact uu1 | with_reducible exact uu2 | with_reducible exact uu3 | with_reducible exact uu4 | with_reducible exact uu5 | with_reducible exact uu6 | with_reducible exact uu7 | with_reducible exact uu8 | with_reducible exact uu9) (by first | with_reducible exact one3 | with_reducible exact one22) (by simp) ?_); clear hI; intro w hI; simp only [List.set_cons_zero, List.set_cons_succ] at hI) | ((with_reducible refine wpList_store_p hI (by with_unfolding_all rfl) (by with_unfolding_all rfl) (by first | with_reducible exact uu0 | with_reducible exact uu1 | with_reducible exact uu2 | with_reducible exact uu3 | with_reducible exact uu4 | with_reducible exact uu5 | with_reducible exact uu6 | with_reducible exact uu7 | with_reducible exact uu8 | with_reducible exact uu9) (by first | with_reducible exact one3 | with_reducible exact one22) (by simp) ?_); clear hI; intro w hI; simp only [List.set_cons_zero, List.set_cons_succ] at hI) | ((with_reducible refine wpList_store_s hI (by with_unfolding_all rfl) (by with_unfolding_all rfl) (by first | with_reducible exact uu0 | with_reducible exact uu1 | with_reducible exact uu2 | with_reducible exact uu3 | with_reducible exact uu4 | with_reducible exact uu5 | with_reducible exact uu6 | with_reducible exact uu7 | with_reducible exact uu8 | with_reducible exact uu9) (by first | with_reducible exact one3 | with_reducible exact one22) (by simp) ?_); clear hI; intro w hI; simp only [List.set_cons_zero, List.set_cons_succ] at hI) | ((with_reducible refine wpList_box_ia hI (by with_unfolding_all rfl) ?_); clear hI; intro bx w hI) | ((with_reducible refine wpList_alloc_ia hI (by first | with_reducible exact zi57) ?_); clear hI; intro bx w hI) | ((with_reducible refine wpList_eq_ia  (by with_unfolding_all rfl) (by with_unfolding_all rfl) (by first | with_reducible exact agg57) (by first | with_reducible exact flatT57) (by (repeat (first | rw [List.length_set] | rw [nau_len] | rw [sub_len] | rw [spl_len])) <;> omega) (by (repeat (first | rw [List.length_set] | rw [nau_len] | rw [sub_len] | rw [spl_len])) <;> omega) ?_)) | ((with_reducible refine wpList_ne_ia  (by with_unfolding_all rfl) (by with_unfolding_all rfl) (by first | with_reducible exact agg57) (by first | with_reducible exact flatT57) (by (repeat (first | rw [List.length_set] | rw [nau_len] | rw [sub_len] | rw [spl_len])) <;> omega) (by (repeat (first | rw [List.length_set] | rw [nau_len] | rw [sub_len] | rw [spl_len])) <;> omega) ?_)) | ((with_reducible refine wpList_index_ia  (by with_unfolding_all rfl) (by with_unfolding_all rfl) (by first | with_reducible exact arr0) (by first | with_reducible exact agg57) (by omega) (by omega) ?_)) | ((with_reducible refine wpList_index_i1  (by with_unfolding_all rfl) (by with_unfolding_all rfl) (by first | with_reducible exact arr0) (by first | with_reducible exact one3 | with_reducible exact one22) (by omega) (by omega) (by (repeat (first | rw [List.length_set] | rw [nau_len] | rw [sub_len] | rw [spl_len])) <;> omega) ?_)) | ((with_reducible refine wpList_build0_ia  (by first | with_reducible exact zi57) (by first | with_reducible exact kn57) ?_)) | fail | ((with_reducible refine wpList_on  (by with_unfolding_all rfl) ?_)) | ((with_reducible refine wpList_load_agg hI (by with_unfolding_all rfl) (by first | with_reducible exact mm0 | with_reducible exact mm1 | with_reducible exact mm2 | with_reducible exact mm3 | with_reducible exact mm4 | with_reducible exact mm5 | with_reducible exact mm6 | with_reducible exact mm7 | with_reducible exact mm8 | with_reducible exact mm9) (by first | with_reducible exact agg57) (by simp) ?_); simp only [List.drop_succ_cons, List.drop_zero, List.take_succ_cons, List.take_zero]) | ((with_reducible refine wpList_load_one hI (by with_unfolding_all rfl) (by first | with_reducible exact mm0 | with_reducible exact mm1 | with_reducible exact mm2 | with_reducible exact mm3 | with_reducible exact mm4 | with_reducible exact mm5 | with_reducible exact mm6 | with_reducible exact mm7 | with_reducible exact mm8 | with_reducible exact mm9) (by first | with_reducible exact one3 | with_reducible exact one22) (by with_unfolding_all rfl) ?_)) | ((with_reducible refine wpList_store hI (by with_unfolding_all rfl) (by with_unfolding_all rfl) (by first | with_reducible exact uu0 | with_reducible exact uu1 | with_reducible exact uu2 | with_reducible exact uu3 | with_reducible exact uu4 | with_reducible exact uu5 | with_reducible exact uu6 | with_reducible exact uu7 | with_reducible exact uu8 | with_reducible exact uu9) (by first | with_reducible exact agg57.size | with_reducible exact one3.size | with_reducible exact one22.size) (by with_unfolding_all rfl) (by simp) (by simp [Value.oneCell']) ?_); clear hI; intro w hI; simp only [splice, List.drop_succ_cons, List.drop_zero, List.take_succ_cons, List.take_zero, List.length_cons, List.length_nil, Nat.zero_add, Nat.reduceAdd, List.nil_append, List.cons_append, List.append_nil, List.drop_nil] at hI) | ((with_reducible refine wpList_box hI (by with_unfolding_all rfl) ?_); clear hI; intro bx w hI) | ((with_reducible refine wpList_alloc hI (by first | with_reducible exact zero57) (by with_unfolding_all rfl) ?_); clear hI; intro bx w hI) | ((with_reducible refine wpList_eql  (by with_unfolding_all rfl) (by with_unfolding_all rfl) (by first | with_reducible exact agg57) (by first | with_reducible exact flatT57) (by simp [isI, iv]) (by simp [isI, iv]) (by with_unfolding_all rfl) (by with_unfolding_all rfl) ?_)) | ((with_reducible refine wpList_neq  (by with_unfolding_all rfl) (by with_unfolding_all rfl) (by first | with_reducible exact agg57) (by first | with_reducible exact flatT57) (by simp [isI, iv]) (by simp [isI, iv]) (by with_unfolding_all rfl) (by with_unfolding_all rfl) ?_)) | fail | (with_reducible refine wpList_tostr Try.underlying22 Try.underlying5 Try.underlying9 (by with_unfolding_all rfl) (hI.rd (by (first | with_reducible exact mm0 | with_reducible exact mm1 | with_reducible exact mm2 | with_reducible exact mm3 | with_reducible exact mm4 | with_reducible exact mm5 | with_reducible exact mm6 | with_reducible exact mm7 | with_reducible exact mm8 | with_reducible exact mm9))) rfl ?_) | (with_reducible refine wpList_load_rw hI (by with_unfolding_all rfl) (by (first | with_reducible exact mm0 | with_reducible exact mm1 | with_reducible exact mm2 | with_reducible exact mm3 | with_reducible exact mm4 | with_reducible exact mm5 | with_reducible exact mm6 | with_reducible exact mm7 | with_reducible exact mm8 | with_reducible exact mm9)) one9 ?_)); refine ⟨rfl, ?_⟩; (try simp only [Act.put, List.setIfInBounds_toArray, List.set_cons_succ, List.set_cons_zero])) | ((with_reducible apply wpReg_pure); rfl; rfl; (focus (intro D w hD hE; go_wp2_with (first | fail); (try simp only [Act.put, List.setIfInBounds_toArray, List.set_cons_succ, List.set_cons_zero]); exact ⟨rfl, rfl, hD⟩)); (first | exact ⟨_, rfl⟩ | exact ⟨undef, rfl⟩)) | ((with_reducible refine wpReg_look (by with_unfolding_all rfl) (by with_unfolding_all rfl) (by with_unfolding_all rfl) ?_); go_wp2_with (first | ((with_reducible refine wpList_on  (by with_unfolding_all rfl) ?_)) | ((with_reducible refine wpList_load_iw hI (by with_unfolding_all rfl) (by first | with_reducible exact mm0 | with_reducible exact mm1 | with_reducible exact mm2 | with_reducible exact mm3 | with_reducible exact mm4 | with_reducible exact mm5 | with_reducible exact mm6 | with_reducible exact mm7 | with_reducible exact mm8 | with_reducible exact mm9) (by first | with_reducible exact agg57) (by (repeat (first | rw [List.length_set] | rw [nau_len] | rw [sub_len] | rw [spl_len])) <;> omega) ?_)) | ((with_reducible refine wpList_load_ia hI (by with_unfolding_all rfl) (by first | with_reducible exact mm0 | with_reducible exact mm1 | with_reducible exact mm2 | with_reducible exact mm3 | with_reducible exact mm4 | with_reducible exact mm5 | with_reducible exact mm6 | with_reducible exact mm7 | with_reducible exact mm8 | with_reducible exact mm9) (by first | with_reducible exact agg57) (by (repeat (first | rw [List.length_set] | rw [nau_len] | rw [sub_len] | rw [spl_len])) <;> omega) ?_)) | ((with_reducible refine wpList_load_i1 hI (by with_unfolding_all rfl) (by first | with_reducible exact mm0 | with_reducible exact mm1 | with_reducible exact mm2 | with_reducible exact mm3 | with_reducible exact mm4 | with_reducible exact mm5 | with_reducible exact mm6 | with_reducible exact mm7 | with_reducible exact mm8 | with_reducible exact mm9) (by first | with_reducible exact one3 | with_reducible exact one22) (by (repeat (first | rw [List.length_set] | rw [nau_len] | rw [sub_len] | rw [spl_len])) <;> omega) ?_)) | ((with_reducible refine wpList_store_iw hI (by with_unfolding_all rfl) (by with_unfolding_all rfl) (by first | with_reducible exact uu0 | with_reducible exact uu1 | with_reducible exact uu2 | with_reducible exact uu3 | with_reducible exact uu4 | with_reducible exact uu5 | with_reducible exact uu6 | with_reducible exact uu7 | with_reducible exact uu8 | with_reducible exact uu9) (by first | with_reducible exact agg57) (by (repeat (first | rw [List.length_set] | rw [nau_len] | rw [sub_len] | rw [spl_len])) <;> omega) (by (repeat (first | rw [List.length_set] | rw [nau_len] | rw [sub_len] | rw [spl_len])) <;> omega) ?_); clear hI; intro w hI) | ((with_reducible refine wpList_store_ia hI (by with_unfolding_all rfl) (by with_unfolding_all rfl) (by first | with_reducible exact uu0 | with_reducible exact uu1 | with_reducible exact uu2 | with_reducible exact uu3 | with_reducible exact uu4 | with_reducible exact uu5 | with_reducible exact uu6 | with_reducible exact uu7 | with_reducible exact uu8 | with_reducible exact uu9) (by first | with_reducible exact agg57) (by (repeat (first | rw [List.length_set] | rw [nau_len] | rw [sub_len] | rw [spl_len])) <;> omega) (by (repeat (first | rw [List.length_set] | rw [nau_len] | rw [sub_len] | rw [spl_len])) <;> omega) ?_); clear hI; intro w hI) | ((with_reducible refine wpList_store_i1 hI (by with_unfolding_all rfl) (by with_unfolding_all rfl) (by first | with_reducible exact uu0 | with_reducible exact uu1 | with_reducible exact uu2 | with_reducible exact uu3 | with_reducible exact uu4 | with_reducible exact uu5 | with_reducible exact uu6 | with_reducible exact uu7 | with_reducible exact uu8 | with_reducible exact uu9) (by first | with_reducible exact one3 | with_reducible exact one22) (by (repeat (first | rw [List.length_set] | rw [nau_len] | rw [sub_len] | rw [spl_len])) <;> omega) ?_); clear hI; intro w hI) | ((with_reducible refine wpList_store_b hI (by with_unfolding_all rfl) (by with_unfolding_all rfl) (by first | with_reducible exact uu0 | with_reducible exact uu1 | with_reducible exact uu2 | with_reducible exact uu3 | with_reducible exact uu4 | with_reducible exact uu5 | with_reducible exact uu6 | with_reducible exact uu7 | with_reducible exact uu8 | with_reducible exact uu9) (by first | with_reducible exact one3 | with_reducible exact one22) (by simp) ?_); clear hI; intro w hI; simp only [List.set_cons_zero, List.set_cons_succ] at hI) | ((with_reducible refine wpList_store_p hI (by with_unfolding_all rfl) (by with_unfolding_all rfl) (by first | with_reducible exact uu0 | with_reducible exact uu1 | with_reducible exact uu2 | with_reducible exact uu3 | with_reducible exact uu4 | with_reducible exact uu5 | with_reducible exact uu6 | with_reducible exact uu7 | with_reducible exact uu8 | with_reducible exact uu9) (by first | with_reducible exact one3 | with_reducible exact one22) (by simp) ?_); clear hI; intro w hI; simp only [List.set_cons_zero, List.set_cons_succ] at hI) | ((with_reducible refine wpList_store_s hI (by with_unfolding_all rfl) (by with_unfolding_all rfl) (by first | with_reducible exact uu0 | with_reducible exact uu1 | with_reducible exact uu2 | with_reducible exact uu3 | with_reducible exact uu4 | with_reducible exact uu5 | with_reducible exact uu6 | with_reducible exact uu7 | with_reducible exact uu8 | with_reducible exact uu9) (by first | with_reducible exact one3 | with_reducible exact one22) (by simp) ?_); clear hI; intro w hI; simp only [List.set_cons_zero, List.set_cons_succ] at hI) | ((with_reducible refine wpList_box_ia hI (by with_unfolding_all rfl) ?_); clear hI; intro bx w hI) | ((with_reducible refine wpList_alloc_ia hI (by first | with_reducible exact zi57) ?_); clear hI; intro bx w hI) | ((with_reducible refine wpList_eq_ia  (by with_unfolding_all rfl) (by with_unfolding_all rfl) (by first | with_reducible exact agg57) (by first | with_reducible exact flatT57) (by (repeat (first | rw [List.length_set] | rw [nau_len] | rw [sub_len] | rw [spl_len])) <;> omega) (by (repeat (first | rw [List.length_set] | rw [nau_len] | rw [sub_len] | rw [spl_len])) <;> omega) ?_)) | ((with_reducible refine wpList_ne_ia  (by with_unfolding_all rfl) (by with_unfolding_all rfl) (by first | with_reducible exact agg57) (by first | with_reducible exact flatT57) (by (repeat (first | rw [List.length_set] | rw [nau_len] | rw [sub_len] | rw [spl_len])) <;> omega) (by (repeat (first | rw [List.length_set] | rw [nau_len] | rw [sub_len] | rw [spl_len])) <;> omega) ?_)) | ((with_reducible refine wpList_index_ia  (by with_unfolding_all rfl) (by with_unfolding_all rfl) (by first | with_reducible exact arr0) (by first | with_reducible exact agg57) (by omega) (by omega) ?_)) | ((with_reducible refine wpList_index_i1  (by with_unfolding_all rfl) (by with_unfolding_all rfl) (by first | with_reducible exact arr0) (by first | with_reducible exact one3 | with_reducible exact one22) (by omega) (by omega) (by (repeat (first | rw [List.length_set] | rw [nau_len] | rw [sub_len] | rw [spl_len])) <;> omega) ?_)) | ((with_reducible refine wpList_build0_ia  (by first | with_reducible exact zi57) (by first | with_reducible exact kn57) ?_)) | fail | ((with_reducible refine wpList_on  (by with_unfolding_all rfl) ?_)) | ((with_reducible refine wpList_load_agg hI (by with_unfolding_all rfl) (by first | with_reducible exact mm0 | with_reducible exact mm1 | with_reducible exact mm2 | with_reducible exact mm3 | with_reducible exact mm4 | with_reducible exact mm5 | with_reducible exact mm6 | with_reducible exact mm7 | with_reducible exact mm8 | with_reducible exact mm9) (by first | with_reducible exact agg57) (by simp) ?_); simp only [List.drop_succ_cons, List.drop_zero, List.take_succ_cons, List.take_zero]) | ((with_reducible refine wpList_load_one hI (by with_unfolding_all rfl) (by first | with_reducible exact mm0 | with_reducible exact mm1 | with_reducible exact mm2 | with_reducible exact mm3 | with_reducible exact mm4 | with_reducible exact mm5 | with_reducible exact mm6 | with_reducible exact mm7 | with_reducible exact mm8 | with_reducible exact mm9) (by first | with_reducible exact one3 | with_reducible exact one22) (by with_unfolding_all rfl) ?_)) | ((with_reducible refine wpList_store hI (by with_unfolding_all rfl) (by with_unfolding_all rfl) (by first | with_reducible exact uu0 | with_reducible exact uu1 | with_reducible exact uu2 | with_reducible exact uu3 | with_reducible exact uu4 | with_reducible exact uu5 | with_reducible exact uu6 | with_reducible exact uu7 | with_reducible exact uu8 | with_reducible exact uu9) (by first | with_reducible exact agg57.size | with_reducible exact one3.size | with_reducible exact one22.size) (by with_unfolding_all rfl) (by simp) (by simp [Value.oneCell']) ?_); clear hI; intro w hI; simp only [splice, List.drop_succ_cons, List.drop_zero, List.take_succ_cons, List.take_zero, List.length_cons, List.length_nil, Nat.zero_add, Nat.reduceAdd, List.nil_append, List.cons_append, List.append_nil, List.drop_nil] at hI) | ((with_reducible refine wpList_box hI (by with_unfolding_all rfl) ?_); clear hI; intro bx w hI) | ((with_reducible refine wpList_alloc hI (by first | with_reducible exact zero57) (by with_unfolding_all rfl) ?_); clear hI; intro bx w hI) | ((with_reducible refine wpList_eql  (by with_unfolding_all rfl) (by with_unfolding_all rfl) (by first | with_reducible exact agg57) (by first | with_reducible exact flatT57) (by simp [isI, iv]) (by simp [isI, iv]) (by with_unfolding_all rfl) (by with_unfolding_all rfl) ?_)) | ((with_reducible refine wpList_neq  (by with_unfolding_all rfl) (by with_unfolding_all rfl) (by first | with_reducible exact agg57) (by first | with_reducible exact flatT57) (by simp [isI, iv]) (by simp [isI, iv]) (by with_unfolding_all rfl) (by with_unfolding_all rfl) ?_)) | fail | (with_reducible refine wpList_tostr Try.underlying22 Try.underlying5 Try.underlying9 (by with_unfolding_all rfl) (hI.rd (by (first | with_reducible exact mm0 | with_reducible exact mm1 | with_reducible exact mm2 | with_reducible exact mm3 | with_reducible exact mm4 | with_reducible exact mm5 | with_reducible exact mm6 | with_reducible exact mm7 | with_reducible exact mm8 | with_reducible exact mm9))) rfl ?_) | (with_reducible refine wpList_load_rw hI (by with_unfolding_all rfl) (by (first | with_reducible exact mm0 | with_reducible exact mm1 | with_reducible exact mm2 | with_reducible exact mm3 | with_reducible exact mm4 | with_reducible exact mm5 | with_reducible exact mm6 | with_reducible exact mm7 | with_reducible exact mm8 | with_reducible exact mm9)) one9 ?_)); refine ⟨rfl, rfl, ?_⟩; (try simp only [Act.put, List.setIfInBounds_toArray, List.set_cons_succ, List.set_cons_zero]))))
            ((with_reducible refine wpReg_nil ?_); rintro _ rfl; (try simp only [Act.put, List.setIfInBounds_toArray, List.set_cons_succ, List.set_cons_zero]))
            have hle := (hI.orr_le (xs := Value.string ⟨m0.toArray⟩ :: mt.map sv) (n := mt.length + 1) (a := some ⟨g, off2, none⟩) (c := cm) (by simp)).2.1
            simp only [List.length_cons, List.length_map] at hle
            by_cases hcm : cm = 1
            · subst hcm
              obtain rfl : mt = [] := List.eq_nil_of_length_eq_zero (by omega)
              go_wp2_with fail
              go_meet
              exact ⟨qt, [], some ⟨g, off2, none⟩, 0, by simp, hg_tl hG2, (hI.orr_none (Upd.there (Upd.there Upd.here))).sub (.cons _ (.cons _ (.refl _)))⟩
            · go_wp2_with fail
              go_meet
              exact ⟨qt, mt, some ⟨g, off2 + 1, none⟩, cm - 1, by simp, hg_tl hG2, runs_fin2 hI⟩
        by_cases hk3 : d = 3
        · subst hk3
          clear hk5 hk2
          rcases ms with _ | ⟨m0, mt⟩
          · obtain rfl := hg_nil hG
            go_wp2_with (first | ((with_reducible refine wpList_on  (by with_unfolding_all rfl) ?_)) | (go_at_call 26; refine (turn_bx0 _ pb c cap (hI.sat _ (by (first | with_reducible exact mm0 | with_reducible exact mm1 | with_reducible exact mm2 | with_reducible exact mm3 | with_reducible exact mm4 | with_reducible exact mm5 | with_reducible exact mm6 | with_reducible exact mm7 | with_reducible exact mm8 | with_reducible exact mm9))) (hI.nd (by (first | with_reducible exact mm0 | with_reducible exact mm1 | with_reducible exact mm2 | with_reducible exact mm3 | with_reducible exact mm4 | with_reducible exact mm5 | with_reducible exact mm6 | with_reducible exact mm7 | with_reducible exact mm8 | with_reducible exact mm9)))).mono ?_; rintro e w1 ⟨rfl, hw⟩; rw [hw]; clear hw))
            go_meet
            exact ⟨[], [], am, cm, rfl, hG, hI.sub (.cons _ (.refl _))⟩
          · obtain ⟨a0, c0, qt, rfl, hG2⟩ := hg_cons hG
            clear hG
            have hp1 : decide ((0 : Int) < (mt.length : Int) + 1) = true := by simp only [decide_eq_true_eq]; omega
            have hlq : qt.length = mt.length := by have := congrArg List.length hG2.out.1; simpa using this
            have hcq : mt.length < cap := by have := hG2.out.2.1; omega
            have hrt : qt.length < cap := by omega
            replace hlq := Lib.hid hlq
            have hbl0 : m0.length ≤ 100000 := by have := hG2.out.2.2.1; omega
            have hm64 : mt.length ≤ 64 := by omega
            simp only [List.map_cons, List.length_cons, sv] at hI
            replace hI := hI.nilSl 9 1
            go_upto_region 29 with (first | ((with_reducible refine wpList_on  (by with_unfolding_all rfl) ?_)) | (go_at_call 26; refine (turn_bx _ pb c cap a0 c0 m0 qt (hI.sat _ (by (first | with_reducible exact mm0 | with_reducible exact mm1 | with_reducible exact mm2 | with_reducible exact mm3 | with_reducible exact mm4 | with_reducible exact mm5 | with_reducible exact mm6 | with_reducible exact mm7 | with_reducible exact mm8 | with_reducible exact mm9))) (hI.nd (by (first | with_reducible exact mm0 | with_reducible exact mm1 | with_reducible exact mm2 | with_reducible exact mm3 | with_reducible exact mm4 | with_reducible exact mm5 | with_reducible exact mm6 | with_reducible exact mm7 | with_reducible exact mm8 | with_reducible exact mm9))) hrt hbl0).mono ?_; rintro e w1 ⟨rfl, a1, c1, hJ⟩; replace hI := hI.on hJ (by (first | with_reducible exact uu0 | with_reducible exact uu1 | with_reducible exact uu2 | with_reducible exact uu3 | with_reducible exact uu4 | with_reducible exact uu5 | with_reducible exact uu6 | with_reducible exact uu7 | with_reducible exact uu8 | with_reducible exact uu9)); clear hJ))
            obtain ⟨g, off2, rfl, -⟩ := hI.orr_some (x := Value.string ⟨m0.toArray⟩) (xs := mt.map sv) (n := mt.length + 1) (a := am) (c := cm) (by simp)
            have hle := (hI.orr_le (xs := Value.string ⟨m0.toArray⟩ :: mt.map sv) (n := mt.length + 1) (a := some ⟨g, off2, none⟩) (c := cm) (by simp)).2.1
            simp only [List.length_cons, List.length_map] at hle
            refine wp_region_any (by kernel_rfl) ?_
            replace hI := hI.drew
            change wpAny _ _ _ _ _ _ _ w1.drew
            revert hI
            generalize w1.drew = w9
            intro hI
            refine wpAny_take (i := 0) (v := ?_) rfl (by kernel_rfl) (by kernel_rfl) (by kernel_rfl) (fun _ _ _ h => h) (Or.inl ⟨by rfl, ?_⟩) ?_
            rotate_left
            · intro w
              go_simp
              with_reducible rfl
            refine wpAny_take (i := 3) (v := ?_) rfl (by kernel_rfl) (by kernel_rfl) (by kernel_rfl) (fun _ _ _ h => h) (Or.inl ⟨by rfl, ?_⟩) ?_
            rotate_left
            · intro w
              go_simp
              with_reducible rfl
            refine wpAny_take (i := 4) (v := ?_) rfl (by kernel_rfl) (by kernel_rfl) (by kernel_rfl) (fun _ _ _ h => h) (Or.inl ⟨by rfl, ?_⟩) ?_
            rotate_left
            · intro w
              go_simp
              with_reducible rfl
            refine wpAny_take (i := 1) (v := .slice (if cm = 1 then some ⟨g, off2, none⟩ else some ⟨g, off2 + 1, none⟩) mt.length (cm - 1)) rfl (by kernel_rfl) (by kernel_rfl) (by kernel_rfl) (fun _ _ _ h => h) (Or.inl ⟨by rfl, ?_⟩) ?_
            · intro w
              clear hI
              by_cases hcm : cm = 1
              · subst hcm
                have hm0 : mt.length = 0 := by omega
                rw [if_pos rfl]
                go_simp
              · rw [if_neg hcm]
                go_simp
                intro hneg
                exfalso
                omega
            generalize hade : (if cm = 1 then some ⟨g, off2, none⟩ else some ⟨g, off2 + 1, none⟩ : Option Addr) = ad
            (simp only [Act.put, List.getElem_toArray, List.getElem_cons_succ, List.getElem_cons_zero, List.setIfInBounds_toArray, List.set_cons_succ, List.set_cons_zero])
            refine any_two (i := 2) (j := 5) (by kernel_rfl) ?_ ?_
            · refine any_stepl (i := 2) (by rfl) (by with_unfolding_all rfl) ?_
              (with_reducible refine wpList_append_osl (q := mt.length) (news := mt.map sv) hI (by with_unfolding_all rfl) (by with_unfolding_all rfl) slT40 (by intro r'; first | exact Upd.here | exact Upd.there Upd.here | exact Upd.there (Upd.there Upd.here)) (hI.orr_rda (by (first | with_reducible exact mm0 | with_reducible exact mm1 | with_reducible exact mm2 | with_reducible exact mm3 | with_reducible exact mm4 | with_reducible exact mm5 | with_reducible exact mm6 | with_reducible exact mm7 | with_reducible exact mm8 | with_reducible exact mm9)) hade) (by simp) (by simp [sv, Value.oneCell']) (by simp only [maxLen]; omega) (by omega) ?_; clear hI; intro a2 c2 w hI; simp only [Nat.zero_add, List.nil_append] at hI ⊢)
              refine kpost_mk ?_
              (simp only [List.drop_succ_cons, List.drop_zero, Act.put, List.getElem_toArray, List.getElem_cons_zero, List.setIfInBounds_toArray, List.set_cons_succ, List.set_cons_zero, goInt])
              refine any_one (i := 5) (by kernel_rfl) ?_
              refine any_stepl (i := 5) (by rfl) (by with_unfolding_all rfl) ?_
              (with_reducible refine wpList_load_rw hI (by with_unfolding_all rfl) (by (first | with_reducible exact mm0 | with_reducible exact mm1 | with_reducible exact mm2 | with_reducible exact mm3 | with_reducible exact mm4 | with_reducible exact mm5 | with_reducible exact mm6 | with_reducible exact mm7 | with_reducible exact mm8 | with_reducible exact mm9)) one9 ?_)
              refine kpost_mk ?_
              (simp only [List.drop_succ_cons, List.drop_zero, Act.put, List.getElem_toArray, List.getElem_cons_zero, List.setIfInBounds_toArray, List.set_cons_succ, List.set_cons_zero, goInt])
              refine any_one (i := 6) (by kernel_rfl) ?_
              refine any_stepl (i := 6) (by rfl) (by with_unfolding_all rfl) ?_
              (with_reducible refine wpList_bslice1v (v0 := Value.string ⟨m0.toArray⟩) hI slT40 (by with_unfolding_all rfl) rfl ?_; clear hI; intro bx2 w hI)
              refine kpost_mk ?_
              (simp only [List.drop_succ_cons, List.drop_zero, Act.put, List.getElem_toArray, List.getElem_cons_zero, List.setIfInBounds_toArray, List.set_cons_succ, List.set_cons_zero, goInt])
              refine any_one (i := 7) (by kernel_rfl) ?_
              refine any_stepl (i := 7) (by rfl) (by with_unfolding_all rfl) ?_
              (with_reducible refine wpList_append_osl (q := 1) (news := [Value.string ⟨m0.toArray⟩]) hI (by with_unfolding_all rfl) (by with_unfolding_all rfl) slT40 (by intro r'; first | exact Upd.here | exact Upd.there Upd.here | exact Upd.there (Upd.there Upd.here)) (hI.rd (by (first | with_reducible exact mm0 | with_reducible exact mm1 | with_reducible exact mm2 | with_reducible exact mm3 | with_reducible exact mm4 | with_reducible exact mm5 | with_reducible exact mm6 | with_reducible exact mm7 | with_reducible exact mm8 | with_reducible exact mm9))) (by simp) (by simp [Value.oneCell']) (by simp only [maxLen]; omega) (by omega) ?_; clear hI; intro a3 c3 w hI)
              refine kpost_mk ?_
              (simp only [List.drop_succ_cons, List.drop_zero, Act.put, List.getElem_toArray, List.getElem_cons_zero, List.setIfInBounds_toArray, List.set_cons_succ, List.set_cons_zero, goInt])
              refine any_one (i := 8) (by kernel_rfl) ?_
              refine any_stepl (i := 8) (by rfl) (by with_unfolding_all rfl) ?_
              go_wp2_with fail
              refine kpost_mk ?_
              refine wpAny_done (by kernel_rfl) ?_ _
              (go_wp2_with fail; go_meet; exact ⟨qt ++ [(a1, c1, m0)], mt ++ [m0], a3, c3, by simp, hg_put (hg_tl hG2) hcq hG2.out.2.2.1 a1 c1, runs_fin hI⟩)
            · refine any_stepl (i := 5) (by rfl) (by with_unfolding_all rfl) ?_
              (with_reducible refine wpList_load_rw hI (by with_unfolding_all rfl) (by (first | with_reducible exact mm0 | with_reducible exact mm1 | with_reducible exact mm2 | with_reducible exact mm3 | with_reducible exact mm4 | with_reducible exact mm5 | with_reducible exact mm6 | with_reducible exact mm7 | with_reducible exact mm8 | with_reducible exact mm9)) one9 ?_)
              refine kpost_mk ?_
              (simp only [List.drop_succ_cons, List.drop_zero, Act.put, List.getElem_toArray, List.getElem_cons_zero, List.setIfInBounds_toArray, List.set_cons_succ, List.set_cons_zero, goInt])
              refine any_two (i := 2) (j := 6) (by kernel_rfl) ?_ ?_
              · refine any_stepl (i := 2) (by rfl) (by with_unfolding_all rfl) ?_
                (with_reducible refine wpList_append_osl (q := mt.length) (news := mt.map sv) hI (by with_unfolding_all rfl) (by with_unfolding_all rfl) slT40 (by intro r'; first | exact Upd.here | exact Upd.there Upd.here | exact Upd.there (Upd.there Upd.here)) (hI.orr_rda (by (first | with_reducible exact mm0 | with_reducible exact mm1 | with_reducible exact mm2 | with_reducible exact mm3 | with_reducible exact mm4 | with_reducible exact mm5 | with_reducible exact mm6 | with_reducible exact mm7 | with_reducible exact mm8 | with_reducible exact mm9)) hade) (by simp) (by simp [sv, Value.oneCell']) (by simp only [maxLen]; omega) (by omega) ?_; clear hI; intro a2 c2 w hI; simp only [Nat.zero_add, List.nil_append] at hI ⊢)
                refine kpost_mk ?_
                (simp only [List.drop_succ_cons, List.drop_zero, Act.put, List.getElem_toArray, List.getElem_cons_zero, List.setIfInBounds_toArray, List.set_cons_succ, List.set_cons_zero, goInt])
                refine any_one (i := 6) (by kernel_rfl) ?_
                refine any_stepl (i := 6) (by rfl) (by with_unfolding_all rfl) ?_
                (with_reducible refine wpList_bslice1v (v0 := Value.string ⟨m0.toArray⟩) hI slT40 (by with_unfolding_all rfl) rfl ?_; clear hI; intro bx2 w hI)
                refine kpost_mk ?_
                (simp only [List.drop_succ_cons, List.drop_zero, Act.put, List.getElem_toArray, List.getElem_cons_zero, List.setIfInBounds_toArray, List.set_cons_succ, List.set_cons_zero, goInt])
                refine any_one (i := 7) (by kernel_rfl) ?_
                refine any_stepl (i := 7) (by rfl) (by with_unfolding_all rfl) ?_
                (with_reducible refine wpList_append_osl (q := 1) (news := [Value.string ⟨m0.toArray⟩]) hI (by with_unfolding_all rfl) (by with_unfolding_all rfl) slT40 (by intro r'; first | exact Upd.here | exact Upd.there Upd.here | exact Upd.there (Upd.there Upd.here)) (hI.rd (by (first | with_reducible exact mm0 | with_reducible exact mm1 | with_reducible exact mm2 | with_reducible exact mm3 | with_reducible exact mm4 | with_reducible exact mm5 | with_reducible exact mm6 | with_reducible exact mm7 | with_reducible exact mm8 | with_reducible exact mm9))) (by simp) (by simp [Value.oneCell']) (by simp only [maxLen]; omega) (by omega) ?_; clear hI; intro a3 c3 w hI)
                refine kpost_mk ?_
                (simp only [List.drop_succ_cons, List.drop_zero, Act.put, List.getElem_toArray, List.getElem_cons_zero, List.setIfInBounds_toArray, List.set_cons_succ, List.set_cons_zero, goInt])
                refine any_one (i := 8) (by kernel_rfl) ?_
                refine any_stepl (i := 8) (by rfl) (by with_unfolding_all rfl) ?_
                go_wp2_with fail
                refine kpost_mk ?_
                refine wpAny_done (by kernel_rfl) ?_ _
                (go_wp2_with fail; go_meet; exact ⟨qt ++ [(a1, c1, m0)], mt ++ [m0], a3, c3, by simp, hg_put (hg_tl hG2) hcq hG2.out.2.2.1 a1 c1, runs_fin hI⟩)
              · refine any_stepl (i := 6) (by rfl) (by with_unfolding_all rfl) ?_
                (with_reducible refine wpList_bslice1v (v0 := Value.string ⟨m0.toArray⟩) hI slT40 (by with_unfolding_all rfl) rfl ?_; clear hI; intro bx2 w hI)
                refine kpost_mk ?_
                (simp only [List.drop_succ_cons, List.drop_zero, Act.put, List.getElem_toArray, List.getElem_cons_zero, List.setIfInBounds_toArray, List.set_cons_succ, List.set_cons_zero, goInt])
                refine any_one (i := 2) (by kernel_rfl) ?_
                refine any_stepl (i := 2) (by rfl) (by with_unfolding_all rfl) ?_
                (with_reducible refine wpList_append_osl (q := mt.length) (news := mt.map sv) hI (by with_unfolding_all rfl) (by with_unfolding_all rfl) slT40 (by intro r'; first | exact Upd.here | exact Upd.there Upd.here | exact Upd.there (Upd.there Upd.here)) (hI.orr_rda (by (first | with_reducible exact mm0 | with_reducible exact mm1 | with_reducible exact mm2 | with_reducible exact mm3 | with_reducible exact mm4 | with_reducible exact mm5 | with_reducible exact mm6 | with_reducible exact mm7 | with_reducible exact mm8 | with_reducible exact mm9)) hade) (by simp) (by simp [sv, Value.oneCell']) (by simp only [maxLen]; omega) (by omega) ?_; clear hI; intro a2 c2 w hI; simp only [Nat.zero_add, List.nil_append] at hI ⊢)
                refine kpost_mk ?_
                (simp only [List.drop_succ_cons, List.drop_zero, Act.put, List.getElem_toArray, List.getElem_cons_zero, List.setIfInBounds_toArray, List.set_cons_succ, List.set_cons_zero, goInt])
                refine any_one (i := 7) (by kernel_rfl) ?_
                refine any_stepl (i := 7) (by rfl) (by with_unfolding_all rfl) ?_
                (with_reducible refine wpList_append_osl (q := 1) (news := [Value.string ⟨m0.toArray⟩]) hI (by with_unfolding_all rfl) (by with_unfolding_all rfl) slT40 (by intro r'; first | exact Upd.here | exact Upd.there Upd.here | exact Upd.there (Upd.there Upd.here)) (hI.rd (by (first | with_reducible exact mm0 | with_reducible exact mm1 | with_reducible exact mm2 | with_reducible exact mm3 | with_reducible exact mm4 | with_reducible exact mm5 | with_reducible exact mm6 | with_reducible exact mm7 | with_reducible exact mm8 | with_reducible exact mm9))) (by simp) (by simp [Value.oneCell']) (by simp only [maxLen]; omega) (by omega) ?_; clear hI; intro a3 c3 w hI)
                refine kpost_mk ?_
                (simp only [List.drop_succ_cons, List.drop_zero, Act.put, List.getElem_toArray, List.getElem_cons_zero, List.setIfInBounds_toArray, List.set_cons_succ, List.set_cons_zero, goInt])
                refine any_one (i := 8) (by kernel_rfl) ?_
                refine any_stepl (i := 8) (by rfl) (by with_unfolding_all rfl) ?_
                go_wp2_with fail
                refine kpost_mk ?_
                refine wpAny_done (by kernel_rfl) ?_ _
                (go_wp2_with fail; go_meet; exact ⟨qt ++ [(a1, c1, m0)], mt ++ [m0], a3, c3, by simp, hg_put (hg_tl hG2) hcq hG2.out.2.2.1 a1 c1, runs_fin hI⟩)
        by_cases hk4 : d = 4
        · subst hk4
          clear hk5 hk2 hk3
          rcases ms with _ | ⟨m0, mt⟩
          · obtain rfl := hg_nil hG
            go_wp2_with (first | ((with_reducible refine wpList_on  (by with_unfolding_all rfl) ?_)) | (go_at_call 24; refine (twice_no _ pb c cap [] (hI.sat _ (by (first | with_reducible exact mm0 | with_reducible exact mm1 | with_reducible exact mm2 | with_reducible exact mm3 | with_reducible exact mm4 | with_reducible exact mm5 | with_reducible exact mm6 | with_reducible exact mm7 | with_reducible exact mm8 | with_reducible exact mm9))) (.inl rfl)).mono ?_; rintro e w1 ⟨rfl, hw⟩; rw [hw]; clear hw))
            go_meet
            exact ⟨[], [], am, cm, rfl, hG, hI.sub (.cons _ (.refl _))⟩
          · obtain ⟨a0, c0, qt, rfl, hG2⟩ := hg_cons hG
            have hp1 : decide ((0 : Int) < (mt.length : Int) + 1) = true := by simp only [decide_eq_true_eq]; omega
            have hlq : qt.length = mt.length := by have := congrArg List.length hG2.out.1; simpa using this
            simp only [List.map_cons, List.length_cons, sv] at hI
            by_cases hroom : mt.length + 1 < cap
            · have hp2 : decide ((mt.length : Int) + 1 < (cap : Int)) = true := by simp only [decide_eq_true_eq]; omega
              have hp3 : decide (mt.length + 1 < cap) = true := by simp only [decide_eq_true_eq]; omega
              have hrt : ((a0, c0, m0) :: qt).length < cap := by simp only [List.length_cons]; omega
              replace hlq := Lib.hid hlq
              have hm100 := hG2.out.2.2.1
              have hbl0 : m0.length ≤ 100000 := by omega
              have hm64 : mt.length ≤ 64 := by omega
              replace hI := hI.nilSl 9 1
              go_upto_region 35 with (first | ((with_reducible refine wpList_on  (by with_unfolding_all rfl) ?_)) | (go_at_call 24; refine (twice_walk _ pb c cap (a0, c0, m0) qt (hI.sat _ (by (first | with_reducible exact mm0 | with_reducible exact mm1 | with_reducible exact mm2 | with_reducible exact mm3 | with_reducible exact mm4 | with_reducible exact mm5 | with_reducible exact mm6 | with_reducible exact mm7 | with_reducible exact mm8 | with_reducible exact mm9))) (hI.nd (by (first | with_reducible exact mm0 | with_reducible exact mm1 | with_reducible exact mm2 | with_reducible exact mm3 | with_reducible exact mm4 | with_reducible exact mm5 | with_reducible exact mm6 | with_reducible exact mm7 | with_reducible exact mm8 | with_reducible exact mm9))) hrt hc64 hbl0).mono ?_; rintro e w1 ⟨rfl, a1, c1, hJ⟩; replace hI := hI.on hJ (by (first | with_reducible exact uu0 | with_reducible exact uu1 | with_reducible exact uu2 | with_reducible exact uu3 | with_reducible exact uu4 | with_reducible exact uu5 | with_reducible exact uu6 | with_reducible exact uu7 | with_reducible exact uu8 | with_reducible exact uu9)); clear hJ))
              obtain ⟨g, off2, rfl, -⟩ := hI.orr_some (x := Value.string ⟨m0.toArray⟩) (xs := mt.map sv) (n := mt.length + 1) (a := am) (c := cm) (by simp)
              refine wp_region_any (by kernel_rfl) ?_
              replace hI := hI.drew
              change wpAny _ _ _ _ _ _ _ w1.drew
              revert hI
              generalize w1.drew = w9
              intro hI
              refine wpAny_take (i := 0) (v := ?_) rfl (by kernel_rfl) (by kernel_rfl) (by kernel_rfl) (fun _ _ _ h => h) (Or.inl ⟨by rfl, ?_⟩) ?_
              rotate_left
              · intro w
                go_simp
                with_reducible rfl
              refine wpAny_take (i := 2) (v := ?_) rfl (by kernel_rfl) (by kernel_rfl) (by kernel_rfl) (fun _ _ _ h => h) (Or.inl ⟨by rfl, ?_⟩) ?_
              rotate_left
              · intro w
                go_simp
                with_reducible rfl
              refine wpAny_take (i := 3) (v := ?_) rfl (by kernel_rfl) (by kernel_rfl) (by kernel_rfl) (fun _ _ _ h => h) (Or.inl ⟨by rfl, ?_⟩) ?_
              rotate_left
              · intro w
                go_simp
                with_reducible rfl
              (simp only [Act.put, List.getElem_toArray, List.getElem_cons_succ, List.getElem_cons_zero, List.setIfInBounds_toArray, List.set_cons_succ, List.set_cons_zero])
              refine any_two (i := 1) (j := 4) (by kernel_rfl) ?_ ?_
              · refine any_stepl (i := 1) (by rfl) (by with_unfolding_all rfl) ?_
                (with_reducible refine wpList_append_osl (q := mt.length + 1) (news := Value.string ⟨m0.toArray⟩ :: mt.map sv) hI (by with_unfolding_all rfl) (by with_unfolding_all rfl) slT40 (by intro r'; first | exact Upd.here | exact Upd.there Upd.here | exact Upd.there (Upd.there Upd.here)) (hI.orr_rd (by (first | with_reducible exact mm0 | with_reducible exact mm1 | with_reducible exact mm2 | with_reducible exact mm3 | with_reducible exact mm4 | with_reducible exact mm5 | with_reducible exact mm6 | with_reducible exact mm7 | with_reducible exact mm8 | with_reducible exact mm9))) (by simp) (by simp [sv, Value.oneCell']) (by simp only [maxLen]; omega) (by omega) ?_; clear hI; intro a2 c2 w hI; simp only [Nat.zero_add, List.nil_append] at hI ⊢)
                refine kpost_mk ?_
                (simp only [List.drop_succ_cons, List.drop_zero, Act.put, List.getElem_toArray, List.getElem_cons_zero, List.setIfInBounds_toArray, List.set_cons_succ, List.set_cons_zero, goInt])
                refine any_one (i := 4) (by kernel_rfl) ?_
                refine any_stepl (i := 4) (by rfl) (by with_unfolding_all rfl) ?_
                (with_reducible refine wpList_load_rw hI (by with_unfolding_all rfl) (by (first | with_reducible exact mm0 | with_reducible exact mm1 | with_reducible exact mm2 | with_reducible exact mm3 | with_reducible exact mm4 | with_reducible exact mm5 | with_reducible exact mm6 | with_reducible exact mm7 | with_reducible exact mm8 | with_reducible exact mm9)) one9 ?_)
                refine kpost_mk ?_
                (simp only [List.drop_succ_cons, List.drop_zero, Act.put, List.getElem_toArray, List.getElem_cons_zero, List.setIfInBounds_toArray, List.set_cons_succ, List.set_cons_zero, goInt])
                refine any_one (i := 5) (by kernel_rfl) ?_
                refine any_stepl (i := 5) (by rfl) (by with_unfolding_all rfl) ?_
                (with_reducible refine wpList_bslice1v (v0 := Value.string ⟨m0.toArray⟩) hI slT40 (by with_unfolding_all rfl) rfl ?_; clear hI; intro bx2 w hI)
                refine kpost_mk ?_
                (simp only [List.drop_succ_cons, List.drop_zero, Act.put, List.getElem_toArray, List.getElem_cons_zero, List.setIfInBounds_toArray, List.set_cons_succ, List.set_cons_zero, goInt])
                refine any_one (i := 6) (by kernel_rfl) ?_
                refine any_stepl (i := 6) (by rfl) (by with_unfolding_all rfl) ?_
                (with_reducible refine wpList_append_osl (q := 1) (news := [Value.string ⟨m0.toArray⟩]) hI (by with_unfolding_all rfl) (by with_unfolding_all rfl) slT40 (by intro r'; first | exact Upd.here | exact Upd.there Upd.here | exact Upd.there (Upd.there Upd.here)) (hI.rd (by (first | with_reducible exact mm0 | with_reducible exact mm1 | with_reducible exact mm2 | with_reducible exact mm3 | with_reducible exact mm4 | with_reducible exact mm5 | with_reducible exact mm6 | with_reducible exact mm7 | with_reducible exact mm8 | with_reducible exact mm9))) (by simp) (by simp [Value.oneCell']) (by simp only [maxLen]; omega) (by omega) ?_; clear hI; intro a3 c3 w hI)
                refine kpost_mk ?_
                (simp only [List.drop_succ_cons, List.drop_zero, Act.put, List.getElem_toArray, List.getElem_cons_zero, List.setIfInBounds_toArray, List.set_cons_succ, List.set_cons_zero, goInt])
                refine any_one (i := 7) (by kernel_rfl) ?_
                refine any_stepl (i := 7) (by rfl) (by with_unfolding_all rfl) ?_
                go_wp2_with fail
                refine kpost_mk ?_
                refine wpAny_done (by kernel_rfl) ?_ _
                (go_wp2_with fail; go_meet; exact ⟨((a0, c0, m0) :: qt) ++ [(a1, c1, m0)], (m0 :: mt) ++ [m0], a3, c3, by simp, hg_put hG hroom hm100 a1 c1, runs_fin (ms := m0 :: mt) hI⟩)
              · refine any_stepl (i := 4) (by rfl) (by with_unfolding_all rfl) ?_
                (with_reducible refine wpList_load_rw hI (by with_unfolding_all rfl) (by (first | with_reducible exact mm0 | with_reducible exact mm1 | with_reducible exact mm2 | with_reducible exact mm3 | with_reducible exact mm4 | with_reducible exact mm5 | with_reducible exact mm6 | with_reducible exact mm7 | with_reducible exact mm8 | with_reducible exact mm9)) one9 ?_)
                refine kpost_mk ?_
                (simp only [List.drop_succ_cons, List.drop_zero, Act.put, List.getElem_toArray, List.getElem_cons_zero, List.setIfInBounds_toArray, List.set_cons_succ, List.set_cons_zero, goInt])
                refine any_two (i := 1) (j := 5) (by kernel_rfl) ?_ ?_
                · refine any_stepl (i := 1) (by rfl) (by with_unfolding_all rfl) ?_
                  (with_reducible refine wpList_append_osl (q := mt.length + 1) (news := Value.string ⟨m0.toArray⟩ :: mt.map sv) hI (by with_unfolding_all rfl) (by with_unfolding_all rfl) slT40 (by intro r'; first | exact Upd.here | exact Upd.there Upd.here | exact Upd.there (Upd.there Upd.here)) (hI.orr_rd (by (first | with_reducible exact mm0 | with_reducible exact mm1 | with_reducible exact mm2 | with_reducible exact mm3 | with_reducible exact mm4 | with_reducible exact mm5 | with_reducible exact mm6 | with_reducible exact mm7 | with_reducible exact mm8 | with_reducible exact mm9))) (by simp) (by simp [sv, Value.oneCell']) (by simp only [maxLen]; omega) (by omega) ?_; clear hI; intro a2 c2 w hI; simp only [Nat.zero_add, List.nil_append] at hI ⊢)
                  refine kpost_mk ?_
                  (simp only [List.drop_succ_cons, List.drop_zero, Act.put, List.getElem_toArray, List.getElem_cons_zero, List.setIfInBounds_toArray, List.set_cons_succ, List.set_cons_zero, goInt])
                  refine any_one (i := 5) (by kernel_rfl) ?_
                  refine any_stepl (i := 5) (by rfl) (by with_unfolding_all rfl) ?_
                  (with_reducible refine wpList_bslice1v (v0 := Value.string ⟨m0.toArray⟩) hI slT40 (by with_unfolding_all rfl) rfl ?_; clear hI; intro bx2 w hI)
                  refine kpost_mk ?_
                  (simp only [List.drop_succ_cons, List.drop_zero, Act.put, List.getElem_toArray, List.getElem_cons_zero, List.setIfInBounds_toArray, List.set_cons_succ, List.set_cons_zero, goInt])
                  refine any_one (i := 6) (by kernel_rfl) ?_
                  refine any_stepl (i := 6) (by rfl) (by with_unfolding_all rfl) ?_
                  (with_reducible refine wpList_append_osl (q := 1) (news := [Value.string ⟨m0.toArray⟩]) hI (by with_unfolding_all rfl) (by with_unfolding_all rfl) slT40 (by intro r'; first | exact Upd.here | exact Upd.there Upd.here | exact Upd.there (Upd.there Upd.here)) (hI.rd (by (first | with_reducible exact mm0 | with_reducible exact mm1 | with_reducible exact mm2 | with_reducible exact mm3 | with_reducible exact mm4 | with_reducible exact mm5 | with_reducible exact mm6 | with_reducible exact mm7 | with_reducible exact mm8 | with_reducible exact mm9))) (by simp) (by simp [Value.oneCell']) (by simp only [maxLen]; omega) (by omega) ?_; clear hI; intro a3 c3 w hI)
                  refine kpost_mk ?_
                  (simp only [List.drop_succ_cons, List.drop_zero, Act.put, List.getElem_toArray, List.getElem_cons_zero, List.setIfInBounds_toArray, List.set_cons_succ, List.set_cons_zero, goInt])
                  refine any_one (i := 7) (by kernel_rfl) ?_
                  refine any_stepl (i := 7) (by rfl) (by with_unfolding_all rfl) ?_
                  go_wp2_with fail
                  refine kpost_mk ?_
                  refine wpAny_done (by kernel_rfl) ?_ _
                  (go_wp2_with fail; go_meet; exact ⟨((a0, c0, m0) :: qt) ++ [(a1, c1, m0)], (m0 :: mt) ++ [m0], a3, c3, by simp, hg_put hG hroom hm100 a1 c1, runs_fin (ms := m0 :: mt) hI⟩)
                · refine any_stepl (i := 5) (by rfl) (by with_unfolding_all rfl) ?_
                  (with_reducible refine wpList_bslice1v (v0 := Value.string ⟨m0.toArray⟩) hI slT40 (by with_unfolding_all rfl) rfl ?_; clear hI; intro bx2 w hI)
                  refine kpost_mk ?_
                  (simp only [List.drop_succ_cons, List.drop_zero, Act.put, List.getElem_toArray, List.getElem_cons_zero, List.setIfInBounds_toArray, List.set_cons_succ, List.set_cons_zero, goInt])
                  refine any_one (i := 1) (by kernel_rfl) ?_
                  refine any_stepl (i := 1) (by rfl) (by with_unfolding_all rfl) ?_
                  (with_reducible refine wpList_append_osl (q := mt.length + 1) (news := Value.string ⟨m0.toArray⟩ :: mt.map sv) hI (by with_unfolding_all rfl) (by with_unfolding_all rfl) slT40 (by intro r'; first | exact Upd.here | exact Upd.there Upd.here | exact Upd.there (Upd.there Upd.here)) (hI.orr_rd (by (first | with_reducible exact mm0 | with_reducible exact mm1 | with_reducible exact mm2 | with_reducible exact mm3 | with_reducible exact mm4 | with_reducible exact mm5 | with_reducible exact mm6 | with_reducible exact mm7 | with_reducible exact mm8 | with_reducible exact mm9))) (by simp) (by simp [sv, Value.oneCell']) (by simp only [maxLen]; omega) (by omega) ?_; clear hI; intro a2 c2 w hI; simp only [Nat.zero_add, List.nil_append] at hI ⊢)
                  refine kpost_mk ?_
                  (simp only [List.drop_succ_cons, List.drop_zero, Act.put, List.getElem_toArray, List.getElem_cons_zero, List.setIfInBounds_toArray, List.set_cons_succ, List.set_cons_zero, goInt])
                  refine any_one (i := 6) (by kernel_rfl) ?_
                  refine any_stepl (i := 6) (by rfl) (by with_unfolding_all rfl) ?_
                  (with_reducible refine wpList_append_osl (q := 1) (news := [Value.string ⟨m0.toArray⟩]) hI (by with_unfolding_all rfl) (by with_unfolding_all rfl) slT40 (by intro r'; first | exact Upd.here | exact Upd.there Upd.here | exact Upd.there (Upd.there Upd.here)) (hI.rd (by (first | with_reducible exact mm0 | with_reducible exact mm1 | with_reducible exact mm2 | with_reducible exact mm3 | with_reducible exact mm4 | with_reducible exact mm5 | with_reducible exact mm6 | with_reducible exact mm7 | with_reducible exact mm8 | with_reducible exact mm9))) (by simp) (by simp [Value.oneCell']) (by simp only [maxLen]; omega) (by omega) ?_; clear hI; intro a3 c3 w hI)
                  refine kpost_mk ?_
                  (simp only [List.drop_succ_cons, List.drop_zero, Act.put, List.getElem_toArray, List.getElem_cons_zero, List.setIfInBounds_toArray, List.set_cons_succ, List.set_cons_zero, goInt])
                  refine any_one (i := 7) (by kernel_rfl) ?_
                  refine any_stepl (i := 7) (by rfl) (by with_unfolding_all rfl) ?_
                  go_wp2_with fail
                  refine kpost_mk ?_
                  refine wpAny_done (by kernel_rfl) ?_ _
                  (go_wp2_with fail; go_meet; exact ⟨((a0, c0, m0) :: qt) ++ [(a1, c1, m0)], (m0 :: mt) ++ [m0], a3, c3, by simp, hg_put hG hroom hm100 a1 c1, runs_fin (ms := m0 :: mt) hI⟩)
            · have hp2 : decide ((mt.length : Int) + 1 < (cap : Int)) = false := by simp only [decide_eq_false_iff_not]; omega
              have hp3 : decide (mt.length + 1 < cap) = false := by simp only [decide_eq_false_iff_not]; omega
              have hfull : ((a0, c0, m0) :: qt).length ≠ 0 ∧ ((a0, c0, m0) :: qt).length = cap := by
                have := hG2.out.2.1
                simp only [List.length_cons]; omega
              replace hlq := Lib.hid hlq
              replace hfull := Lib.hid hfull
              go_wp2_with (first | ((with_reducible refine wpList_on  (by with_unfolding_all rfl) ?_)) | (go_at_call 24; refine (twice_no _ pb c cap _ (hI.sat _ (by (first | with_reducible exact mm0 | with_reducible exact mm1 | with_reducible exact mm2 | with_reducible exact mm3 | with_reducible exact mm4 | with_reducible exact mm5 | with_reducible exact mm6 | with_reducible exact mm7 | with_reducible exact mm8 | with_reducible exact mm9))) (.inr hfull.out)).mono ?_; rintro e w1 ⟨rfl, hw⟩; rw [hw]; clear hw))
              go_meet
              exact ⟨(a0, c0, m0) :: qt, m0 :: mt, am, cm, rfl, hG, hI.sub (.cons _ (.refl _))⟩
        have hq2 : (d == 2) = false := by simp [hk2]
        have hq3 : (d == 3) = false := by simp [hk3]
        have hq4 : (d == 4) = false := by simp [hk4]
        have hq5 : (d == 5) = false := by simp [hk5]
        clear hk2 hk3 hk4 hk5
        have hlq : qs.length = ms.length := by have := congrArg List.length hG.out.1; simpa using this
        by_cases hroom : ms.length < cap
        · have hroom2 : qs.length < cap := by omega
          have hrt : decide (ms.length < cap) = true := by simp; omega
          replace hI := hI.nilSl 9 1
          clear hlq
          go_upto_region 18 with (first | ((with_reducible refine wpList_on  (by with_unfolding_all rfl) ?_)) | ((with_reducible refine wpList_load_arg hI (by with_unfolding_all rfl) hcell (by simp) (by with_unfolding_all exact agg57) ?_)) | ((with_reducible refine wpList_alloc hI (by first | with_reducible exact zero57) (by with_unfolding_all rfl) ?_); clear hI; intro bx w hI) | ((with_reducible refine wpList_store hI (by with_unfolding_all rfl) (by with_unfolding_all rfl) (by first | with_reducible exact uu0 | with_reducible exact uu1 | with_reducible exact uu2 | with_reducible exact uu3 | with_reducible exact uu4 | with_reducible exact uu5 | with_reducible exact uu6 | with_reducible exact uu7 | with_reducible exact uu8 | with_reducible exact uu9) (by first | with_reducible exact agg57.size | with_reducible exact one3.size | with_reducible exact one22.size) (by with_unfolding_all rfl) (by simp) (by simp [Value.oneCell']) ?_); clear hI; intro w hI; simp only [splice, List.drop_succ_cons, List.drop_zero, List.take_succ_cons, List.take_zero, List.length_cons, List.length_nil, Nat.zero_add, Nat.reduceAdd, List.nil_append, List.cons_append, List.append_nil, List.drop_nil] at hI) | ((with_reducible refine wpList_load_one hI (by with_unfolding_all rfl) (by first | with_reducible exact mm0 | with_reducible exact mm1 | with_reducible exact mm2 | with_reducible exact mm3 | with_reducible exact mm4 | with_reducible exact mm5 | with_reducible exact mm6 | with_reducible exact mm7 | with_reducible exact mm8 | with_reducible exact mm9) (by first | with_reducible exact one3 | with_reducible exact one22) (by with_unfolding_all rfl) ?_)) | (go_at_call 23; refine (put_box _ pb c cap qs (hI.sat _ (by (first | with_reducible exact mm0 | with_reducible exact mm1 | with_reducible exact mm2 | with_reducible exact mm3 | with_reducible exact mm4 | with_reducible exact mm5 | with_reducible exact mm6 | with_reducible exact mm7 | with_reducible exact mm8 | with_reducible exact mm9))) (hI.nd (by (first | with_reducible exact mm0 | with_reducible exact mm1 | with_reducible exact mm2 | with_reducible exact mm3 | with_reducible exact mm4 | with_reducible exact mm5 | with_reducible exact mm6 | with_reducible exact mm7 | with_reducible exact mm8 | with_reducible exact mm9))) hroom2 _ _ bj (hI.rd0 hrj) hbl).mono ?_; rintro e w1 ⟨rfl, a1, c1, hJ⟩; replace hI := hI.on hJ (by (first | with_reducible exact uu0 | with_reducible exact uu1 | with_reducible exact uu2 | with_reducible exact uu3 | with_reducible exact uu4 | with_reducible exact uu5 | with_reducible exact uu6 | with_reducible exact uu7 | with_reducible exact uu8 | with_reducible exact uu9)); clear hJ))
          refine wp_region_any (by kernel_rfl) ?_
          replace hI := hI.drew
          change wpAny _ _ _ _ _ _ _ w1.drew
          revert hI
          generalize w1.drew = w9
          intro hI
          refine wpAny_take (i := 0) (v := ?_) rfl (by kernel_rfl) (by kernel_rfl) (by kernel_rfl) (fun _ _ _ h => h) (Or.inl ⟨by rfl, ?_⟩) ?_
          rotate_left
          · intro w
            go_simp
            with_reducible rfl
          refine wpAny_take (i := 2) (v := ?_) rfl (by kernel_rfl) (by kernel_rfl) (by kernel_rfl) (fun _ _ _ h => h) (Or.inl ⟨by rfl, ?_⟩) ?_
          rotate_left
          · intro w
            go_simp
            with_reducible rfl
          (simp only [Act.put, List.getElem_toArray, List.getElem_cons_succ, List.getElem_cons_zero, List.setIfInBounds_toArray, List.set_cons_succ, List.set_cons_zero])
          refine any_two (i := 1) (j := 3) (by kernel_rfl) ?_ ?_
          · refine any_stepl (i := 1) (by rfl) (by with_unfolding_all rfl) ?_
            (with_reducible refine wpList_append_osl (q := ms.length) (news := ms.map sv) hI (by with_unfolding_all rfl) (by with_unfolding_all rfl) slT40 (by intro r'; first | exact Upd.here | exact Upd.there Upd.here | exact Upd.there (Upd.there Upd.here)) (hI.orr_rd (by (first | with_reducible exact mm0 | with_reducible exact mm1 | with_reducible exact mm2 | with_reducible exact mm3 | with_reducible exact mm4 | with_reducible exact mm5 | with_reducible exact mm6 | with_reducible exact mm7 | with_reducible exact mm8 | with_reducible exact mm9))) (by simp) (by simp [sv, Value.oneCell']) (by simp only [maxLen]; omega) (by omega) ?_; clear hI; intro a2 c2 w hI; simp only [Nat.zero_add, List.nil_append] at hI ⊢)
            refine kpost_mk ?_
            (simp only [List.drop_succ_cons, List.drop_zero, Act.put, List.getElem_toArray, List.getElem_cons_zero, List.setIfInBounds_toArray, List.set_cons_succ, List.set_cons_zero, goInt])
            refine any_one (i := 3) (by kernel_rfl) ?_
            refine any_stepl (i := 3) (by rfl) (by with_unfolding_all rfl) ?_
            ((with_reducible refine wpList_load_one hI (by with_unfolding_all rfl) (by first | with_reducible exact mm0 | with_reducible exact mm1 | with_reducible exact mm2 | with_reducible exact mm3 | with_reducible exact mm4 | with_reducible exact mm5 | with_reducible exact mm6 | with_reducible exact mm7 | with_reducible exact mm8 | with_reducible exact mm9) (by first | with_reducible exact one3 | with_reducible exact one22) (by with_unfolding_all rfl) ?_))
            refine kpost_mk ?_
            (simp only [List.drop_succ_cons, List.drop_zero, Act.put, List.getElem_toArray, List.getElem_cons_zero, List.setIfInBounds_toArray, List.set_cons_succ, List.set_cons_zero, goInt])
            refine any_one (i := 4) (by kernel_rfl) ?_
            refine any_stepl (i := 4) (by rfl) (by with_unfolding_all rfl) ?_
            (with_reducible refine wpList_tostr Try.underlying22 Try.underlying5 Try.underlying9 (by with_unfolding_all rfl) (hI.rd0 hrj) rfl ?_)
            refine kpost_mk ?_
            (simp only [List.drop_succ_cons, List.drop_zero, Act.put, List.getElem_toArray, List.getElem_cons_zero, List.setIfInBounds_toArray, List.set_cons_succ, List.set_cons_zero, goInt])
            refine any_one (i := 5) (by kernel_rfl) ?_
            refine any_stepl (i := 5) (by rfl) (by with_unfolding_all rfl) ?_
            (with_reducible refine wpList_bslice1v (v0 := Value.string ⟨bj.toArray⟩) hI slT40 (by with_unfolding_all rfl) rfl ?_; clear hI; intro bx2 w hI)
            refine kpost_mk ?_
            (simp only [List.drop_succ_cons, List.drop_zero, Act.put, List.getElem_toArray, List.getElem_cons_zero, List.setIfInBounds_toArray, List.set_cons_succ, List.set_cons_zero, goInt])
            refine any_one (i := 6) (by kernel_rfl) ?_
            refine any_stepl (i := 6) (by rfl) (by with_unfolding_all rfl) ?_
            (with_reducible refine wpList_append_osl (q := 1) (news := [Value.string ⟨bj.toArray⟩]) hI (by with_unfolding_all rfl) (by with_unfolding_all rfl) slT40 (by intro r'; first | exact Upd.here | exact Upd.there Upd.here | exact Upd.there (Upd.there Upd.here)) (hI.rd (by (first | with_reducible exact mm0 | with_reducible exact mm1 | with_reducible exact mm2 | with_reducible exact mm3 | with_reducible exact mm4 | with_reducible exact mm5 | with_reducible exact mm6 | with_reducible exact mm7 | with_reducible exact mm8 | with_reducible exact mm9))) (by simp) (by simp [Value.oneCell']) (by simp only [maxLen]; omega) (by omega) ?_; clear hI; intro a3 c3 w hI)
            refine kpost_mk ?_
            (simp only [List.drop_succ_cons, List.drop_zero, Act.put, List.getElem_toArray, List.getElem_cons_zero, List.setIfInBounds_toArray, List.set_cons_succ, List.set_cons_zero, goInt])
            refine any_one (i := 7) (by kernel_rfl) ?_
            refine any_stepl (i := 7) (by rfl) (by with_unfolding_all rfl) ?_
            go_wp2_with fail
            refine kpost_mk ?_
            refine wpAny_done (by kernel_rfl) ?_ _
            (go_wp2_with fail; go_meet; exact ⟨qs ++ [(a1, c1, bj)], ms ++ [bj], a3, c3, by simp, hg_put hG hroom hbl1 a1 c1, runs_fin hI⟩)
          · refine any_stepl (i := 3) (by rfl) (by with_unfolding_all rfl) ?_
            ((with_reducible refine wpList_load_one hI (by with_unfolding_all rfl) (by first | with_reducible exact mm0 | with_reducible exact mm1 | with_reducible exact mm2 | with_reducible exact mm3 | with_reducible exact mm4 | with_reducible exact mm5 | with_reducible exact mm6 | with_reducible exact mm7 | with_reducible exact mm8 | with_reducible exact mm9) (by first | with_reducible exact one3 | with_reducible exact one22) (by with_unfolding_all rfl) ?_))
            refine kpost_mk ?_
            (simp only [List.drop_succ_cons, List.drop_zero, Act.put, List.getElem_toArray, List.getElem_cons_zero, List.setIfInBounds_toArray, List.set_cons_succ, List.set_cons_zero, goInt])
            refine any_two (i := 1) (j := 4) (by kernel_rfl) ?_ ?_
            · refine any_stepl (i := 1) (by rfl) (by with_unfolding_all rfl) ?_
              (with_reducible refine wpList_append_osl (q := ms.length) (news := ms.map sv) hI (by with_unfolding_all rfl) (by with_unfolding_all rfl) slT40 (by intro r'; first | exact Upd.here | exact Upd.there Upd.here | exact Upd.there (Upd.there Upd.here)) (hI.orr_rd (by (first | with_reducible exact mm0 | with_reducible exact mm1 | with_reducible exact mm2 | with_reducible exact mm3 | with_reducible exact mm4 | with_reducible exact mm5 | with_reducible exact mm6 | with_reducible exact mm7 | with_reducible exact mm8 | with_reducible exact mm9))) (by simp) (by simp [sv, Value.oneCell']) (by simp only [maxLen]; omega) (by omega) ?_; clear hI; intro a2 c2 w hI; simp only [Nat.zero_add, List.nil_append] at hI ⊢)
              refine kpost_mk ?_
              (simp only [List.drop_succ_cons, List.drop_zero, Act.put, List.getElem_toArray, List.getElem_cons_zero, List.setIfInBounds_toArray, List.set_cons_succ, List.set_cons_zero, goInt])
              refine any_one (i := 4) (by kernel_rfl) ?_
              refine any_stepl (i := 4) (by rfl) (by with_unfolding_all rfl) ?_
              (with_reducible refine wpList_tostr Try.underlying22 Try.underlying5 Try.underlying9 (by with_unfolding_all rfl) (hI.rd0 hrj) rfl ?_)
              refine kpost_mk ?_
              (simp only [List.drop_succ_cons, List.drop_zero, Act.put, List.getElem_toArray, List.getElem_cons_zero, List.setIfInBounds_toArray, List.set_cons_succ, List.set_cons_zero, goInt])
              refine any_one (i := 5) (by kernel_rfl) ?_
              refine any_stepl (i := 5) (by rfl) (by with_unfolding_all rfl) ?_
              (with_reducible refine wpList_bslice1v (v0 := Value.string ⟨bj.toArray⟩) hI slT40 (by with_unfolding_all rfl) rfl ?_; clear hI; intro bx2 w hI)
              refine kpost_mk ?_
              (simp only [List.drop_succ_cons, List.drop_zero, Act.put, List.getElem_toArray, List.getElem_cons_zero, List.setIfInBounds_toArray, List.set_cons_succ, List.set_cons_zero, goInt])
              refine any_one (i := 6) (by kernel_rfl) ?_
              refine any_stepl (i := 6) (by rfl) (by with_unfolding_all rfl) ?_
              (with_reducible refine wpList_append_osl (q := 1) (news := [Value.string ⟨bj.toArray⟩]) hI (by with_unfolding_all rfl) (by with_unfolding_all rfl) slT40 (by intro r'; first | exact Upd.here | exact Upd.there Upd.here | exact Upd.there (Upd.there Upd.here)) (hI.rd (by (first | with_reducible exact mm0 | with_reducible exact mm1 | with_reducible exact mm2 | with_reducible exact mm3 | with_reducible exact mm4 | with_reducible exact mm5 | with_reducible exact mm6 | with_reducible exact mm7 | with_reducible exact mm8 | with_reducible exact mm9))) (by simp) (by simp [Value.oneCell']) (by simp only [maxLen]; omega) (by omega) ?_; clear hI; intro a3 c3 w hI)
              refine kpost_mk ?_
              (simp only [List.drop_succ_cons, List.drop_zero, Act.put, List.getElem_toArray, List.getElem_cons_zero, List.setIfInBounds_toArray, List.set_cons_succ, List.set_cons_zero, goInt])
              refine any_one (i := 7) (by kernel_rfl) ?_
              refine any_stepl (i := 7) (by rfl) (by with_unfolding_all rfl) ?_
              go_wp2_with fail
              refine kpost_mk ?_
              refine wpAny_done (by kernel_rfl) ?_ _
              (go_wp2_with fail; go_meet; exact ⟨qs ++ [(a1, c1, bj)], ms ++ [bj], a3, c3, by simp, hg_put hG hroom hbl1 a1 c1, runs_fin hI⟩)
            · refine any_stepl (i := 4) (by rfl) (by with_unfolding_all rfl) ?_
              (with_reducible refine wpList_tostr Try.underlying22 Try.underlying5 Try.underlying9 (by with_unfolding_all rfl) (hI.rd0 hrj) rfl ?_)
              refine kpost_mk ?_
              (simp only [List.drop_succ_cons, List.drop_zero, Act.put, List.getElem_toArray, List.getElem_cons_zero, List.setIfInBounds_toArray, List.set_cons_succ, List.set_cons_zero, goInt])
              refine any_two (i := 1) (j := 5) (by kernel_rfl) ?_ ?_
              · refine any_stepl (i := 1) (by rfl) (by with_unfolding_all rfl) ?_
                (with_reducible refine wpList_append_osl (q := ms.length) (news := ms.map sv) hI (by with_unfolding_all rfl) (by with_unfolding_all rfl) slT40 (by intro r'; first | exact Upd.here | exact Upd.there Upd.here | exact Upd.there (Upd.there Upd.here)) (hI.orr_rd (by (first | with_reducible exact mm0 | with_reducible exact mm1 | with_reducible exact mm2 | with_reducible exact mm3 | with_reducible exact mm4 | with_reducible exact mm5 | with_reducible exact mm6 | with_reducible exact mm7 | with_reducible exact mm8 | with_reducible exact mm9))) (by simp) (by simp [sv, Value.oneCell']) (by simp only [maxLen]; omega) (by omega) ?_; clear hI; intro a2 c2 w hI; simp only [Nat.zero_add, List.nil_append] at hI ⊢)
                refine kpost_mk ?_
                (simp only [List.drop_succ_cons, List.drop_zero, Act.put, List.getElem_toArray, List.getElem_cons_zero, List.setIfInBounds_toArray, List.set_cons_succ, List.set_cons_zero, goInt])
                refine any_one (i := 5) (by kernel_rfl) ?_
                refine any_stepl (i := 5) (by rfl) (by with_unfolding_all rfl) ?_
                (with_reducible refine wpList_bslice1v (v0 := Value.string ⟨bj.toArray⟩) hI slT40 (by with_unfolding_all rfl) rfl ?_; clear hI; intro bx2 w hI)
                refine kpost_mk ?_
                (simp only [List.drop_succ_cons, List.drop_zero, Act.put, List.getElem_toArray, List.getElem_cons_zero, List.setIfInBounds_toArray, List.set_cons_succ, List.set_cons_zero, goInt])
                refine any_one (i := 6) (by kernel_rfl) ?_
                refine any_stepl (i := 6) (by rfl) (by with_unfolding_all rfl) ?_
                (with_reducible refine wpList_append_osl (q := 1) (news := [Value.string ⟨bj.toArray⟩]) hI (by with_unfolding_all rfl) (by with_unfolding_all rfl) slT40 (by intro r'; first | exact Upd.here | exact Upd.there Upd.here | exact Upd.there (Upd.there Upd.here)) (hI.rd (by (first | with_reducible exact mm0 | with_reducible exact mm1 | with_reducible exact mm2 | with_reducible exact mm3 | with_reducible exact mm4 | with_reducible exact mm5 | with_reducible exact mm6 | with_reducible exact mm7 | with_reducible exact mm8 | with_reducible exact mm9))) (by simp) (by simp [Value.oneCell']) (by simp only [maxLen]; omega) (by omega) ?_; clear hI; intro a3 c3 w hI)
                refine kpost_mk ?_
                (simp only [List.drop_succ_cons, List.drop_zero, Act.put, List.getElem_toArray, List.getElem_cons_zero, List.setIfInBounds_toArray, List.set_cons_succ, List.set_cons_zero, goInt])
                refine any_one (i := 7) (by kernel_rfl) ?_
                refine any_stepl (i := 7) (by rfl) (by with_unfolding_all rfl) ?_
                go_wp2_with fail
                refine kpost_mk ?_
                refine wpAny_done (by kernel_rfl) ?_ _
                (go_wp2_with fail; go_meet; exact ⟨qs ++ [(a1, c1, bj)], ms ++ [bj], a3, c3, by simp, hg_put hG hroom hbl1 a1 c1, runs_fin hI⟩)
              · refine any_stepl (i := 5) (by rfl) (by with_unfolding_all rfl) ?_
                (with_reducible refine wpList_bslice1v (v0 := Value.string ⟨bj.toArray⟩) hI slT40 (by with_unfolding_all rfl) rfl ?_; clear hI; intro bx2 w hI)
                refine kpost_mk ?_
                (simp only [List.drop_succ_cons, List.drop_zero, Act.put, List.getElem_toArray, List.getElem_cons_zero, List.setIfInBounds_toArray, List.set_cons_succ, List.set_cons_zero, goInt])
                refine any_one (i := 1) (by kernel_rfl) ?_
                refine any_stepl (i := 1) (by rfl) (by with_unfolding_all rfl) ?_
                (with_reducible refine wpList_append_osl (q := ms.length) (news := ms.map sv) hI (by with_unfolding_all rfl) (by with_unfolding_all rfl) slT40 (by intro r'; first | exact Upd.here | exact Upd.there Upd.here | exact Upd.there (Upd.there Upd.here)) (hI.orr_rd (by (first | with_reducible exact mm0 | with_reducible exact mm1 | with_reducible exact mm2 | with_reducible exact mm3 | with_reducible exact mm4 | with_reducible exact mm5 | with_reducible exact mm6 | with_reducible exact mm7 | with_reducible exact mm8 | with_reducible exact mm9))) (by simp) (by simp [sv, Value.oneCell']) (by simp only [maxLen]; omega) (by omega) ?_; clear hI; intro a2 c2 w hI; simp only [Nat.zero_add, List.nil_append] at hI ⊢)
                refine kpost_mk ?_
                (simp only [List.drop_succ_cons, List.drop_zero, Act.put, List.getElem_toArray, List.getElem_cons_zero, List.setIfInBounds_toArray, List.set_cons_succ, List.set_cons_zero, goInt])
                refine any_one (i := 6) (by kernel_rfl) ?_
                refine any_stepl (i := 6) (by rfl) (by with_unfolding_all rfl) ?_
                (with_reducible refine wpList_append_osl (q := 1) (news := [Value.string ⟨bj.toArray⟩]) hI (by with_unfolding_all rfl) (by with_unfolding_all rfl) slT40 (by intro r'; first | exact Upd.here | exact Upd.there Upd.here | exact Upd.there (Upd.there Upd.here)) (hI.rd (by (first | with_reducible exact mm0 | with_reducible exact mm1 | with_reducible exact mm2 | with_reducible exact mm3 | with_reducible exact mm4 | with_reducible exact mm5 | with_reducible exact mm6 | with_reducible exact mm7 | with_reducible exact mm8 | with_reducible exact mm9))) (by simp) (by simp [Value.oneCell']) (by simp only [maxLen]; omega) (by omega) ?_; clear hI; intro a3 c3 w hI)
                refine kpost_mk ?_
                (simp only [List.drop_succ_cons, List.drop_zero, Act.put, List.getElem_toArray, List.getElem_cons_zero, List.setIfInBounds_toArray, List.set_cons_succ, List.set_cons_zero, goInt])
                refine any_one (i := 7) (by kernel_rfl) ?_
                refine any_stepl (i := 7) (by rfl) (by with_unfolding_all rfl) ?_
                go_wp2_with fail
                refine kpost_mk ?_
                refine wpAny_done (by kernel_rfl) ?_ _
                (go_wp2_with fail; go_meet; exact ⟨qs ++ [(a1, c1, bj)], ms ++ [bj], a3, c3, by simp, hg_put hG hroom hbl1 a1 c1, runs_fin hI⟩)
        · replace hroom : cap ≤ qs.length := by omega
          have hrf : decide (ms.length < cap) = false := by simp; omega
          replace hlq := Lib.hid hlq
          go_wp2_with (first | ((with_reducible refine wpList_on  (by with_unfolding_all rfl) ?_)) | ((with_reducible refine wpList_load_arg hI (by with_unfolding_all rfl) hcell (by simp) (by with_unfolding_all exact agg57) ?_)) | ((with_reducible refine wpList_alloc hI (by first | with_reducible exact zero57) (by with_unfolding_all rfl) ?_); clear hI; intro bx w hI) | ((with_reducible refine wpList_store hI (by with_unfolding_all rfl) (by with_unfolding_all rfl) (by first | with_reducible exact uu0 | with_reducible exact uu1 | with_reducible exact uu2 | with_reducible exact uu3 | with_reducible exact uu4 | with_reducible exact uu5 | with_reducible exact uu6 | with_reducible exact uu7 | with_reducible exact uu8 | with_reducible exact uu9) (by first | with_reducible exact agg57.size | with_reducible exact one3.size | with_reducible exact one22.size) (by with_unfolding_all rfl) (by simp) (by simp [Value.oneCell']) ?_); clear hI; intro w hI; simp only [splice, List.drop_succ_cons, List.drop_zero, List.take_succ_cons, List.take_zero, List.length_cons, List.length_nil, Nat.zero_add, Nat.reduceAdd, List.nil_append, List.cons_append, List.append_nil, List.drop_nil] at hI) | ((with_reducible refine wpList_load_one hI (by with_unfolding_all rfl) (by first | with_reducible exact mm0 | with_reducible exact mm1 | with_reducible exact mm2 | with_reducible exact mm3 | with_reducible exact mm4 | with_reducible exact mm5 | with_reducible exact mm6 | with_reducible exact mm7 | with_reducible exact mm8 | with_reducible exact mm9) (by first | with_reducible exact one3 | with_reducible exact one22) (by with_unfolding_all rfl) ?_)) | (go_at_call 23; refine (put_bxn _ pb c cap qs (hI.sat _ (by (first | with_reducible exact mm0 | with_reducible exact mm1 | with_reducible exact mm2 | with_reducible exact mm3 | with_reducible exact mm4 | with_reducible exact mm5 | with_reducible exact mm6 | with_reducible exact mm7 | with_reducible exact mm8 | with_reducible exact mm9))) hroom _ _ bj (hI.rd0 hrj) hbl).mono ?_; rintro e w1 ⟨rfl, hw1⟩; replace hI := hI.call hw1; clear hw1))
          go_meet
          exact ⟨qs, ms, am, cm, rfl, hG, hI.sub (.cons _ (.refl _))⟩
      · obtain rfl : j = len := by omega
        go_wp2_with fail
        go_ret
        exact ⟨rfl, hI.below⟩
end Go.Proofs.Ytckoiabainpamaa
