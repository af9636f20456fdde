/-
  The law LinkTakes: its walk. No condition.
-/
import Derived.Test.YtckoiabainpamaaLinkNet
import Derived.Test.YtckoiabainpamaaBoxArg
import Derived.Deep.DeepCutAuto
namespace Go.Proofs.Ytckoiabainpamaa
open Go.RowKit
set_option maxRecDepth 100000
set_option linter.unusedSimpArgs false
set_option linter.unusedVariables false
theorem SlArg.barg_le {w : World} {a : Option Addr} {len c : Nat} {row : Nat → List Value} (h : SlArg w a len c [pSlice [pU8]] row) : ∃ ra rc rb, BArg w a len ra rc rb ∧ ∀ i, i < len → (rb i).length ≤ rc i := by
  have key : ∀ i, ∃ q : Option Addr × Nat × List UInt8, i < len → (Rd w q.1 (q.2.2.map bv) ∧ q.2.2.length ≤ 140737488351232 ∧ ∃ b off, a = some ⟨b, off, none⟩ ∧ CellsAt w b (off + i) [.slice q.1 q.2.2.length q.2.1]) ∧ q.2.2.length ≤ q.2.1 := by
    intro i
    by_cases hi : i < len
    · obtain ⟨ha, b, off, h1, h2⟩ := h.row i hi
      match hrow : row i, ha with
      | [v], ⟨⟨a', n, c', row', hv, hs⟩, _⟩ =>
        obtain ⟨bs, hl, hr⟩ := hs.bytes
        refine ⟨(a', c', bs), fun _ => ⟨⟨hr, by rw [hl]; exact Nat.le_trans hs.le hs.reach, b, off, h1, ?_⟩, by rw [hl]; exact hs.le⟩⟩
        rw [hrow, hv] at h2
        rw [hl]
        simpa using h2
    · exact ⟨(none, 0, []), fun h => absurd h hi⟩
  exact ⟨fun i => (key i).choose.1, fun i => (key i).choose.2.1, fun i => (key i).choose.2.2, ⟨Nat.le_trans h.le h.reach, fun i hi => ((key i).choose_spec hi).1⟩, fun i hi => ((key i).choose_spec hi).2⟩
theorem and7 (x : Int) : ∃ k : Nat, k < 8 ∧ bits BinOp.and IntKind.i64 x 7 = (k : Int) := by
  obtain ⟨h0, h1⟩ := and_range x 7 (by decide)
  rw [show bits BinOp.and IntKind.i64 x ((7 : Nat) : Int) = bits BinOp.and IntKind.i64 x 7 from rfl] at h0 h1
  exact ⟨(bits BinOp.and IntKind.i64 x 7).toNat, by omega, by omega⟩
/-- what the i-th is sent as -/
def sentAs (d : Nat) (rb : Nat → List UInt8) (i : Nat) : List UInt8 := if i = d then rb i else frameF 2 3 (rb i)
theorem sent_more {v : List QE} {d j : Nat} {rb : Nat → List UInt8} (h : v.map (·.2.2) = (List.range j).map (sentAs d rb)) (a1 : Option Addr) (c1 : Nat) {b : List UInt8} (hb : b = sentAs d rb j) : (v ++ [(a1, c1, b)]).map (·.2.2) = (List.range (j + 1)).map (sentAs d rb) := by
  rw [List.map_append, h, List.range_succ, List.map_append, hb]
  rfl
theorem sent_first {v : List QE} {d j len : Nat} {rb : Nat → List UInt8} (hj : j < len) (h : v.map (·.2.2) = ((List.range len).map (sentAs d rb)).drop j) : ∃ a0 c0 vt, v = (a0, c0, sentAs d rb j) :: vt ∧ vt.map (·.2.2) = ((List.range len).map (sentAs d rb)).drop (j + 1) := by
  rw [List.drop_eq_getElem_cons (by simpa using hj)] at h
  rcases v with _ | ⟨⟨a0, c0, b0⟩, vt⟩
  · simp at h
  · simp only [List.map_cons, List.cons.injEq, List.getElem_map, List.getElem_range] at h
    obtain ⟨rfl, h⟩ := h
    exact ⟨a0, c0, vt, rfl, h⟩
set_option maxHeartbeats 6400000 in
theorem ltakes_walk (w0 : World) (a : Option Addr) (len cp : Nat) (ra : Nat → Option Addr) (rc : Nat → Nat) (rb : Nat → List UInt8) (h : BArg w0 a len ra rc rb) (hle : ∀ i, i < len → (rb i).length ≤ rc i) (bad : Int) :
    Calls Try.prog 16 #[.slice a len cp, .int .i64 bad] w0 fun e w' => e = .returned (.bool true) ∧ Below w0.heap.size w0 w' := by
  have hI := Inv.start w0
  by_cases hbig : 8 < len
  · have hb : decide ((8 : Int) < (len : Int)) = true := by simp; omega
    clear h hle hbig
    go_enter Try.func16, Try.ntmps16
    go_wp2_with (first | ((with_reducible refine wpList_on  (by with_unfolding_all rfl) ?_)) | (go_at_call 33; refine (fit10 _).mono ?_; rintro e w1 ⟨rfl, hw1⟩; replace hI := hI.call hw1; clear hw1))
    go_ret
    exact ⟨rfl, hI.below⟩
  have hb : decide ((8 : Int) < (len : Int)) = false := by simp; omega
  have hl8 : len ≤ 8 := by omega
  clear hbig
  obtain ⟨d, hd8, hde⟩ := and7 bad
  replace h := Lib.hid h
  replace hle := Lib.hid hle
  go_enter Try.func16, Try.ntmps16
  go_upto_region 7 with (first | ((with_reducible refine wpList_on  (by with_unfolding_all rfl) ?_)) | (go_at_call 33; refine (fit10 _).mono ?_; rintro e w1 ⟨rfl, hw1⟩; replace hI := hI.call hw1; clear hw1) | (go_at_call 29; refine (net_new _).mono ?_; rintro e w1 ⟨p, pb, c, rfl, hJ⟩; replace hI := hI.seq hJ; simp only [List.cons_append, List.nil_append] at hI; clear hJ))
  rw [← netOne_0 13] at hI
  clear hb
  go_loopg [6, 7, 26] len (fun kk s6 s7 i wr => ∃ (j : Nat) (v : List QE), kk = len - j ∧ j ≤ len ∧ i = .int .i64 j ∧ Hid (v.length = j ∧ v.map (·.2.2) = (List.range j).map (sentAs d rb) ∧ ∀ i, i < j → (rb i).length ≤ 2000) ∧ Inv [] w0 wr [ntr 73 p pb c (netOne 13 v)])
  case atStart => exact ⟨0, [], by omega, by omega, rfl, Lib.hid ⟨rfl, rfl, fun i hi => absurd hi (Nat.not_lt_zero i)⟩, hI⟩
  case round =>
    clear hI
    obtain ⟨j, v, rfl, hj, rfl, hv, hI⟩ := hrel
    by_cases hlj : j < len
    · obtain ⟨hrj, hbr, b, off, rfl, hcell⟩ := h.out.row j hlj
      have hroom : (netOne 13 v 13).length < 8 := by rw [netOne_at, hv.out.1]; omega
      obtain ⟨bj, hbj⟩ : ∃ bj, rb j = bj := ⟨_, rfl⟩
      rw [hbj] at hrj hbr hcell
      replace hbj := Lib.hid hbj
      clear h hle
      generalize ra j = aj at *
      generalize rc j = cj at *
      replace hrj : Rd w0 aj (bj.map bv) := hrj
      by_cases h20 : 2000 < bj.length
      · have hb20 : decide ((2000 : Int) < (bj.length : Int)) = true := by simp; omega
        clear h20 hroom
        go_wp2_with (first | ((with_reducible refine wpList_on  (by with_unfolding_all rfl) ?_)) | (with_reducible refine wpList_load_arg1 hI (by with_unfolding_all rfl) hcell (by simp) one22 ?_))
        go_ret
        exact ⟨rfl, hI.below⟩
      have hb20 : decide ((2000 : Int) < (bj.length : Int)) = false := by simp; omega
      have hbl : bj.length ≤ 100000 := by omega
      have hbl3 : bj.length ≤ 3000 := by omega
      have hv2 : ∀ a1 c1 b, b = sentAs d rb j → Hid ((v ++ [(a1, c1, b)]).length = j + 1 ∧ (v ++ [(a1, c1, b)]).map (·.2.2) = (List.range (j + 1)).map (sentAs d rb) ∧ ∀ i, i < j + 1 → (rb i).length ≤ 2000) := fun a1 c1 b hb => Lib.hid ⟨by rw [List.length_append, hv.out.1]; rfl, sent_more hv.out.2.1 a1 c1 hb, fun i hi => by
        by_cases hij : i = j
        · rw [hij, hbj.out]; omega
        · exact hv.out.2.2 i (by omega)⟩
      replace hv2 := Lib.hid hv2
      clear h20
      by_cases hjd : j = d
      · have g1 : ((j : Int) == (d : Int)) = true := by simp [hjd]
        have hs : bj = sentAs d rb j := by unfold sentAs; rw [if_pos hjd, hbj.out]
        replace hs := Lib.hid hs
        clear hjd
        go_wp2_with (first | ((with_reducible refine wpList_on  (by with_unfolding_all rfl) ?_)) | (with_reducible refine wpList_load_arg1 hI (by with_unfolding_all rfl) hcell (by simp) one22 ?_) | (go_at_call 30; (with_reducible refine (send23 _ p pb c _ (hI.at_ (by (first | with_reducible exact mm0 | with_reducible exact mm1 | with_reducible exact mm2 | with_reducible exact mm3 | with_reducible exact mm4 | with_reducible exact mm5 | with_reducible exact mm6 | with_reducible exact mm7 | with_reducible exact mm8 | with_reducible exact mm9))) _ _ _ bj rfl (hI.rd0 hrj) hbl hroom).mono ?_); rintro e w1 ⟨rfl, a1, c1, hJ⟩; replace hI := hI.on hJ (by (first | with_reducible exact uu0 | with_reducible exact uu1 | with_reducible exact uu2 | with_reducible exact uu3 | with_reducible exact uu4 | with_reducible exact uu5 | with_reducible exact uu6 | with_reducible exact uu7 | with_reducible exact uu8 | with_reducible exact uu9)); clear hJ))
        rw [netOne_at, netOne_upf] at hI
        go_roundg (len - (j + 1))
        case measure => omega
        case rel => exact ⟨j + 1, v ++ [(a1, c1, bj)], by omega, by omega, by go_num, hv2.out a1 c1 bj hs.out, hI⟩
      · have g1 : ((j : Int) == (d : Int)) = false := by simp; omega
        have hs : frameF 2 3 bj = sentAs d rb j := by unfold sentAs; rw [if_neg hjd, hbj.out]
        replace hs := Lib.hid hs
        clear hjd
        go_wp2_with (first | ((with_reducible refine wpList_on  (by with_unfolding_all rfl) ?_)) | (with_reducible refine wpList_load_arg1 hI (by with_unfolding_all rfl) hcell (by simp) one22 ?_) | (go_at_call 37; (with_reducible refine (lsend _ p pb c _ (hI.at_ (by (first | with_reducible exact mm0 | with_reducible exact mm1 | with_reducible exact mm2 | with_reducible exact mm3 | with_reducible exact mm4 | with_reducible exact mm5 | with_reducible exact mm6 | with_reducible exact mm7 | with_reducible exact mm8 | with_reducible exact mm9))) _ _ bj (hI.rd0 hrj) hbl3 hroom).mono ?_); rintro e w1 ⟨rfl, a1, c1, hJ⟩; replace hI := hI.on hJ (by (first | with_reducible exact uu0 | with_reducible exact uu1 | with_reducible exact uu2 | with_reducible exact uu3 | with_reducible exact uu4 | with_reducible exact uu5 | with_reducible exact uu6 | with_reducible exact uu7 | with_reducible exact uu8 | with_reducible exact uu9)); clear hJ))
        rw [netOne_at, netOne_upf] at hI
        go_roundg (len - (j + 1))
        case measure => omega
        case rel => exact ⟨j + 1, v ++ [(a1, c1, frameF 2 3 bj)], by omega, by omega, by go_num, hv2.out a1 c1 _ hs.out, hI⟩
    · obtain rfl : j = len := by omega
      have hv0 : Hid (v.map (·.2.2) = ((List.range j).map (sentAs d rb)).drop 0) := Lib.hid (by rw [List.drop_zero]; exact hv.out.2.1)
      have h20 : Hid (∀ i, i < j → (rb i).length ≤ 2000) := Lib.hid hv.out.2.2
      clear hv
      go_upto_region 18 with (first | ((with_reducible refine wpList_on  (by with_unfolding_all rfl) ?_)))
      go_loopg [8, 9, 10, 11, 12, 13, 49] j (fun kk s8 s9 s10 s11 s12 s13 i wr => ∃ (l : Nat) (v : List QE), kk = j - l ∧ l ≤ j ∧ i = .int .i64 l ∧ Hid (v.map (·.2.2) = ((List.range j).map (sentAs d rb)).drop l) ∧ Inv [] w0 wr [ntr 73 p pb c (netOne 13 v)])
      case atStart => exact ⟨0, v, by omega, by omega, rfl, hv0, hI⟩
      case round =>
        clear hI hv0
        obtain ⟨l, v, rfl, hl, rfl, hv, hI⟩ := hrel
        by_cases hll : l < j
        · obtain ⟨hrj, hbr, b, off, rfl, hcell⟩ := h.out.row l hll
          have hcj := hle.out l hll
          have h2000 := h20.out l hll
          obtain ⟨a0, c0, vt, rfl, hvt⟩ := sent_first hll hv.out
          have hq : netOne 13 ((a0, c0, sentAs d rb l) :: vt) 13 = (a0, c0, sentAs d rb l) :: vt := netOne_at _ _
          obtain ⟨b0, hb0⟩ : ∃ b0, sentAs d rb l = b0 := ⟨_, rfl⟩
          obtain ⟨bj, hbj⟩ : ∃ bj, rb l = bj := ⟨_, rfl⟩
          rw [hbj] at hrj hbr hcell hcj h2000
          rw [hb0] at hq hI
          replace hvt := Lib.hid hvt
          have hbl : bj.length ≤ 100000 := by omega
          clear h hle h20 hv
          generalize ra l = aj at *
          generalize rc l = cj at *
          replace hrj : Rd w0 aj (bj.map bv) := hrj
          by_cases hjd : l = d
          · have g1 : ((l : Int) == (d : Int)) = true := by simp [hjd]
            obtain rfl : bj = b0 := by rw [← hb0, ← hbj]; unfold sentAs; rw [if_pos hjd]
            have hb0l := hbl
            clear hjd hb0 hbj
            cases ho : openF 2 3 bj with
            | none =>
              replace hq := Lib.hid hq
              go_upto_region 20 with (first | ((with_reducible refine wpList_on  (by with_unfolding_all rfl) ?_)) | (with_reducible refine wpList_load_arg1 hI (by with_unfolding_all rfl) hcell (by simp) one22 ?_))
              replace hq := hq.out
              go_wp2_with (first | ((with_reducible refine wpList_on  (by with_unfolding_all rfl) ?_)) | (go_at_call 38; (with_reducible refine (ltake_none _ p pb c _ (hI.at_ (by (first | with_reducible exact mm0 | with_reducible exact mm1 | with_reducible exact mm2 | with_reducible exact mm3 | with_reducible exact mm4 | with_reducible exact mm5 | with_reducible exact mm6 | with_reducible exact mm7 | with_reducible exact mm8 | with_reducible exact mm9))) a0 c0 _ vt hq hb0l ho).mono ?_); rintro e w1 ⟨rfl, hJ⟩; replace hI := hI.on hJ (by (first | with_reducible exact uu0 | with_reducible exact uu1 | with_reducible exact uu2 | with_reducible exact uu3 | with_reducible exact uu4 | with_reducible exact uu5 | with_reducible exact uu6 | with_reducible exact uu7 | with_reducible exact uu8 | with_reducible exact uu9)); clear hJ) | (go_at_call 35; (with_reducible refine (open_z (open_none _ 2 3 _ _ _ bj rfl (hI.rd0 hrj) hcj hbl ho) 2 3 (by decide) (by decide)).mono ?_); rintro e w1 ⟨rfl, hbl3⟩; replace hI := hI.call hbl3; clear hbl3))
              rw [netOne_upf] at hI
              go_roundg (j - (l + 1))
              case measure => omega
              case rel => exact ⟨l + 1, vt, by omega, by omega, by go_num, hvt, hI⟩
            | some r =>
              replace hq := Lib.hid hq
              go_upto_region 20 with (first | ((with_reducible refine wpList_on  (by with_unfolding_all rfl) ?_)) | (with_reducible refine wpList_load_arg1 hI (by with_unfolding_all rfl) hcell (by simp) one22 ?_))
              replace hq := hq.out
              go_wp2_with (first | ((with_reducible refine wpList_on  (by with_unfolding_all rfl) ?_)) | (go_at_call 38; (with_reducible refine (ltake_some _ p pb c _ (hI.at_ (by (first | with_reducible exact mm0 | with_reducible exact mm1 | with_reducible exact mm2 | with_reducible exact mm3 | with_reducible exact mm4 | with_reducible exact mm5 | with_reducible exact mm6 | with_reducible exact mm7 | with_reducible exact mm8 | with_reducible exact mm9))) a0 c0 _ r vt hq hb0l ho).mono ?_); rintro e w1 ⟨a2, c2, rfl, hrd, hJ⟩; replace hI := hI.on hJ (by (first | with_reducible exact uu0 | with_reducible exact uu1 | with_reducible exact uu2 | with_reducible exact uu3 | with_reducible exact uu4 | with_reducible exact uu5 | with_reducible exact uu6 | with_reducible exact uu7 | with_reducible exact uu8 | with_reducible exact uu9)); clear hJ) | (go_at_call 35; (with_reducible refine (open_z (open_some _ 2 3 _ _ _ bj r rfl (hI.rd0 hrj) hcj hbl ho) 2 3 (by decide) (by decide)).mono ?_); rintro e w1 ⟨a3, c3, hc3, rfl, hrd3, hbl3⟩; replace hI := hI.call hbl3; clear hbl3))
              rw [netOne_upf] at hI
              go_roundg (j - (l + 1))
              case measure => omega
              case rel => exact ⟨l + 1, vt, by omega, by omega, by go_num, hvt, hI⟩
          · have g1 : ((l : Int) == (d : Int)) = false := by simp; omega
            obtain rfl : b0 = frameF 2 3 bj := by rw [← hb0, ← hbj]; unfold sentAs; rw [if_neg hjd]
            have hb0l : (frameF 2 3 bj).length ≤ 100000 := by rw [frameF_len]; omega
            obtain ⟨r, hrr⟩ : ∃ r, r = bj := ⟨_, rfl⟩
            have ho : openF 2 3 (frameF 2 3 bj) = some r := by rw [hrr]; exact open_frame 2 3 bj
            generalize frameF 2 3 bj = b0 at *
            subst hrr
            clear hjd hb0 hbj
            replace hq := Lib.hid hq
            go_upto_region 20 with (first | ((with_reducible refine wpList_on  (by with_unfolding_all rfl) ?_)) | (with_reducible refine wpList_load_arg1 hI (by with_unfolding_all rfl) hcell (by simp) one22 ?_))
            replace hq := hq.out
            go_wp2_with (first | ((with_reducible refine wpList_on  (by with_unfolding_all rfl) ?_)) | (go_at_call 38; (with_reducible refine (ltake_some _ p pb c _ (hI.at_ (by (first | with_reducible exact mm0 | with_reducible exact mm1 | with_reducible exact mm2 | with_reducible exact mm3 | with_reducible exact mm4 | with_reducible exact mm5 | with_reducible exact mm6 | with_reducible exact mm7 | with_reducible exact mm8 | with_reducible exact mm9))) a0 c0 _ r vt hq hb0l ho).mono ?_); rintro e w1 ⟨a2, c2, rfl, hrd, hJ⟩; replace hI := hI.on hJ (by (first | with_reducible exact uu0 | with_reducible exact uu1 | with_reducible exact uu2 | with_reducible exact uu3 | with_reducible exact uu4 | with_reducible exact uu5 | with_reducible exact uu6 | with_reducible exact uu7 | with_reducible exact uu8 | with_reducible exact uu9)); clear hJ) | (with_reducible refine wpList_tostr Try.underlying22 Try.underlying5 Try.underlying9 (by with_unfolding_all rfl) hrd rfl ?_) | (with_reducible refine wpList_tostr Try.underlying22 Try.underlying5 Try.underlying9 (by with_unfolding_all rfl) (hI.rd0 hrj) rfl ?_))
            rw [netOne_upf] at hI
            go_roundg (j - (l + 1))
            case measure => omega
            case rel => exact ⟨l + 1, vt, by omega, by omega, by go_num, hvt, hI⟩
        · obtain rfl : l = j := by omega
          have hv0 : v = [] := by
            have := hv.out
            rw [List.drop_eq_nil_of_le (by simp)] at this
            simpa using this
          subst hv0
          have hq : netOne 13 [] 13 = [] := netOne_at _ _
          have hle8 := netOne_le (i := 13) (show ([] : List QE).length ≤ 8 by simp)
          have hln : lenTo (netOne 13 []) 25 = 0 := netOne_len (by decide) []
          clear hv h20 h hle
          go_wp2_with (first | ((with_reducible refine wpList_on  (by with_unfolding_all rfl) ?_)) | (go_at_call 38; (with_reducible refine (ltake_0 _ p pb c _ (hI.at_ (by (first | with_reducible exact mm0 | with_reducible exact mm1 | with_reducible exact mm2 | with_reducible exact mm3 | with_reducible exact mm4 | with_reducible exact mm5 | with_reducible exact mm6 | with_reducible exact mm7 | with_reducible exact mm8 | with_reducible exact mm9))) hq).mono ?_); rintro e w1 ⟨rfl, hw⟩; rw [hw]; clear hw) | (go_at_call 38; (with_reducible refine (ltake_22 _ p pb c _ (hI.at_ (by (first | with_reducible exact mm0 | with_reducible exact mm1 | with_reducible exact mm2 | with_reducible exact mm3 | with_reducible exact mm4 | with_reducible exact mm5 | with_reducible exact mm6 | with_reducible exact mm7 | with_reducible exact mm8 | with_reducible exact mm9)))).mono ?_); rintro e w1 ⟨rfl, hw⟩; rw [hw]; clear hw) | (with_reducible refine wpList_makeN (n := 3001) hI slT22 (by with_unfolding_all rfl) (by with_unfolding_all rfl) (by decide) (by decide) ?_; clear hI; intro bm w hI) | (go_at_call 37; (with_reducible refine (lsend_big _ p _ 3001 3001 (by decide)).mono ?_); rintro e w1 ⟨rfl, hw⟩; rw [hw]; clear hw) | (go_at_call 31; (with_reducible refine (len_net _ p pb c _ hle8 (hI.at_ (by (first | with_reducible exact mm0 | with_reducible exact mm1 | with_reducible exact mm2 | with_reducible exact mm3 | with_reducible exact mm4 | with_reducible exact mm5 | with_reducible exact mm6 | with_reducible exact mm7 | with_reducible exact mm8 | with_reducible exact mm9)))).mono ?_); rintro e w1 ⟨rfl, hw1⟩; replace hI := hI.call hw1; clear hw1; rw [hln]))
          go_ret
          exact ⟨rfl, hI.below⟩
theorem ltakes_cells (w0 : World) (a : Option Addr) (len c : Nat) (row : Nat → List Value) (bad : Int) (h : SlArg w0 a len c [pSlice [pU8]] row) :
    Calls Try.prog 16 #[.slice a len c, .int .i64 bad] w0 fun e w' => e = .returned (.bool true) ∧ Below w0.heap.size w0 w' := by
  obtain ⟨ra, rc, rb, hr, hle⟩ := h.barg_le
  exact ltakes_walk w0 a len c ra rc rb hr hle bad
end Go.Proofs.Ytckoiabainpamaa
