/-
  The law BookSums. No condition.
-/
import Derived.Test.YthncfjfgjdeajaaBookFit
import Derived.Test.YthncfjfgjdeajaaBookFill
import Derived.Test.YthncfjfgjdeajaaBookLaw
import Derived.Test.YthncfjfgjdeajaaMakeI
namespace Go.Proofs.Ythncfjfgjdeajaa
open Go.RowKit
set_option maxRecDepth 100000
theorem slT60 : SlT Try.prog 60 28 174 1392 (ia (nau 174)) := ⟨by kernel_rfl, by kernel_rfl, by simp [ia_cells, nau], by decide⟩
theorem ib_arg {T : List Nat} {w0 w : World} {m : List Res} {b n : Nat} {e : TypeId} {L : List Int} {row : Nat → List Int} (hI : Inv T w0 w m) (hm : ib b e L ∈ m) (hn : n ≤ 140737488351232)
    (h : ∀ i, i < n → (row i).length = 174 ∧ Wf (row i) ∧ sub L (i * 174) 174 = row i) (hl : L.length = n * 174) : IArg w (some ⟨b, 0, none⟩) n 174 row := by
  refine ⟨hn, fun i hi => ⟨(h i hi).1, (h i hi).2.1, b, 0, rfl, fun j hj => ?_⟩⟩
  have hj2 : j < 174 := by rw [List.length_map, (h i hi).1] at hj; exact hj
  rw [ib_cell hI hm (by omega)]
  have e1 : gi L (0 + i * 174 + j) = gi (row i) j := by
    rw [← (h i hi).2.2, gi_sub _ _ _ _ hj2, Nat.zero_add]
  rw [e1]
  simp [gi, (h i hi).1, hj2]
/-- a row that came into no others -/
def zr (x : List Int) : List Int := spl (spl x 29 (nau 5)) 34 (nau 140)
theorem zr_len {x : List Int} (h : x.length = 174) : (zr x).length = 174 := by
  unfold zr; rw [spl_len, spl_len, nau_len, nau_len]; omega
theorem zr_gi {x : List Int} (h : x.length = 174) (i : Nat) : gi (zr x) i = if 29 ≤ i then 0 else gi x i := by
  have h1 : (spl x 29 (nau 5)).length = 174 := by rw [spl_len, nau_len]; omega
  unfold zr
  rw [gi_spl _ _ _ _ (by rw [nau_len]; omega), nau_len, gi_spl _ _ _ _ (by rw [nau_len]; omega), nau_len, gi_nau, gi_nau]
  split
  · rw [if_pos (by omega)]
  · split
    · rw [if_pos (by omega)]
    · split
      · exact gi_far (by omega)
      · rfl
/-- the list of the first so many -/
def lS (row : Nat → List Int) (n : Nat) : Nat → List Int
  | 0 => nau (n * 174)
  | j + 1 => spl (lS row n j) (j * 174) (zr (row j))
theorem lS_len {row : Nat → List Int} {n : Nat} (h : ∀ j, j < n → (row j).length = 174) : ∀ j, j ≤ n → (lS row n j).length = n * 174
  | 0, _ => nau_len _
  | j + 1, hj => by
    have := lS_len h j (by omega)
    have hz := zr_len (h j (by omega))
    unfold lS
    rw [spl_len, this, hz]
    omega
theorem lS_at {row : Nat → List Int} {n : Nat} (h : ∀ j, j < n → (row j).length = 174) : ∀ j, j ≤ n → ∀ i, i < j → sub (lS row n j) (i * 174) 174 = zr (row i)
  | 0, _, i, hi => by omega
  | j + 1, hj, i, hi => by
    have hl := lS_len h j (by omega)
    have hz := zr_len (h j (by omega))
    unfold lS
    by_cases he : i = j
    · subst he
      have := sub_spl_same (lS row n i) (zr (row i)) (i * 174) (by rw [hz, hl]; omega)
      rwa [hz] at this
    · rw [sub_spl_other _ _ _ _ _ (by rw [hz, hl]; omega) (by omega)]
      exact lS_at h j (by omega) i (by omega)
theorem fS_alone {row : Nat → List Int} {n : Nat} (hr : ∀ j, j < n → (row j).length = 174 ∧ Wf (row j)) (h : ∀ j, j < n → ∀ i, i < 5 → gi (row j) (29 + i) = 0) : ∀ j, j ≤ n → ∀ p, p < 5 → ∀ i, i < 5 → gi (sub (fS row j) (p * 174) 174) (29 + i) = 0
  | 0, _, p, hp, i, hi => by
    unfold fS; rw [sub_nau _ _ _ (by omega), gi_nau]
  | j + 1, hj, p, hp, i, hi => by
    have ih := fS_alone hr h j (by omega) p hp i hi
    have hl := (fS_bk n hr j (by omega)).len
    have hx := (hr j (by omega)).1
    unfold fS mergeM
    split
    · rw [Int.toNat_natCast]
      by_cases he : p = j % 5
      · subst he
        have := sub_spl_same (fS row j) (row j) (j % 5 * 174) (by omega)
        rw [hx] at this
        rw [this]; exact h j (by omega) i hi
      · rw [sub_spl_other _ _ _ _ _ (by omega) (by omega)]; exact ih
    · exact ih
/-- all rights together, of the first so many -/
def nS (m : List Int) (key : Int) : Nat → Int
  | 0 => 0
  | j + 1 => nS m key j + rightsF m (j : Nat) key
theorem nS_bound {m : List Int} (hk : Bk m) (key : Int) : ∀ j : Nat, j ≤ 5 → (-(j * 32985348833280 : Int) ≤ nS m key j ∧ nS m key j ≤ j * 32985348833280) ∧ (j < 5 → -32985348833280 ≤ rightsF m j key ∧ rightsF m j key ≤ 32985348833280) := by
  have hb : ∀ j : Nat, j < 5 → -32985348833280 ≤ rightsF m j key ∧ rightsF m j key ≤ 32985348833280 := by
    intro j hj
    rw [rights_eq hj]
    have := rS_bound (allC_num hk key 5 (Nat.le_refl _)) (sub m (j * 174) 174) j 5
    omega
  intro j
  induction j with
  | zero => intro _; exact ⟨by simp [nS], fun h => hb 0 h⟩
  | succ j ih =>
    intro hj
    refine ⟨?_, fun h => hb _ h⟩
    obtain ⟨h1, h2⟩ := ih (by omega)
    have := h2 (by omega)
    have e : ((j + 1 : Nat) : Int) * 32985348833280 = j * 32985348833280 + 32985348833280 := by omega
    unfold nS
    rw [e]
    omega
theorem nmL {T : List Nat} {w0 w : World} {a : Nat} {e1 : TypeId} {z1 : List Int} {m : List Res} (_ : Inv T w0 w (ib a e1 z1 :: m)) : ∃ a', a' = a := ⟨a, rfl⟩
theorem nmLL {T : List Nat} {w0 w : World} {a b : Nat} {e1 e2 : TypeId} {z1 z2 : List Int} {m : List Res} (_ : Inv T w0 w (ib a e1 z1 :: ib b e2 z2 :: m)) : ∃ a' b', a' = a ∧ b' = b := ⟨a, b, rfl, rfl⟩
set_option maxHeartbeats 6400000 in
theorem sums_walk (w0 : World) (a : Option Addr) (len c : Nat) (row : Nat → List Int) (h : IArg w0 a len 174 row) (k0 : Int) :
    Calls Try.prog 12 #[.slice a len c, .int .i64 k0] w0 fun e w' => e = .returned (.bool true) ∧ Below w0.heap.size w0 w' := by
  have hI := Inv.start w0
  have hz := nau_len 870
  have hn5 := nau_len 5
  have hn140 := nau_len 140
  have l0 := h.reach
  by_cases hbig : 20 < len
  · have hb : decide ((20 : Int) < (len : Int)) = true := by simp; omega
    clear h
    go_enter Try.func12, Try.ntmps12
    go_wp2_with (first | ((with_reducible refine wpList_on  (by with_unfolding_all rfl) ?_)) | (go_at_call 31; refine (fit05 _).mono ?_; rintro e w1 ⟨rfl, hw1⟩; replace hI := hI.call hw1; clear hw1))
    go_ret
    exact ⟨rfl, hI.below⟩
  have hb : decide ((20 : Int) < (len : Int)) = false := by simp; omega
  have hlen20 : len ≤ 20 := by omega
  clear hbig
  go_enter Try.func12, Try.ntmps12
  go_upto_region 6 with (first | ((with_reducible refine wpList_on  (by with_unfolding_all rfl) ?_)) | (go_at_call 31; refine (fit05 _).mono ?_; rintro e w1 ⟨rfl, hw1⟩; replace hI := hI.call hw1; clear hw1))
  obtain ⟨key, hkey⟩ : ∃ key, bits BinOp.and IntKind.i64 k0 3 = key := ⟨_, rfl⟩
  rw [hkey]
  clear hkey hb
  (try simp only [Act.put, List.setIfInBounds_toArray, List.set_cons_succ, List.set_cons_zero])
  go_upto_region 7 with (first | ((with_reducible refine wpList_on  (by with_unfolding_all rfl) ?_)) | ((with_reducible refine wpList_make_ia hI slT60 (by with_unfolding_all rfl) (by with_unfolding_all rfl) (by omega) (by omega) ?_); clear hI; intro bL w hI))
  (try simp only [Act.put, List.setIfInBounds_toArray, List.set_cons_succ, List.set_cons_zero])
  obtain ⟨b5, e5⟩ := nmL hI
  subst e5
  have st0 : Hid (lS row len 0 = nau (len * 174)) := Lib.hid rfl
  have hLlen := Lib.hid (lS_len (row := row) (n := len) (fun j hj => (h.row j hj).1))
  go_wp2_with fail
  go_loopg [6, 7, 24] len (fun kk s6 s7 i wr => ∃ j : Nat, kk = len - j ∧ j ≤ len ∧ i = .int .i64 j ∧ Inv [] w0 wr [ib b5 28 (lS row len j)])
  case atStart => exact ⟨0, by omega, by omega, rfl, by rw [st0.out]; exact hI⟩
  case round =>
    clear hI
    obtain ⟨j, rfl, hj, rfl, hI⟩ := hrel
    have hLl := Lib.hid (hLlen.out j hj)
    by_cases hlj : j < len
    · obtain ⟨hxl, hxr, bq, off, rfl, hcella⟩ := h.row j hlj
      have hl3 : ((row j).map (Value.int .i64)).length = 174 := by simpa using hxl
      have hagga : AggT Try.prog 28 ((row j).map (Value.int .i64)).length := by rw [hl3]; exact agg28
      have hs : Hid (lS row len (j + 1) = spl (lS row len j) (j * 174) (zr (row j))) := Lib.hid rfl
      have hll := hLl.out
      have hnat : (j : Int).toNat = j := by simp
      have hzd : Hid (∀ x, zr x = spl (spl x 29 (nau 5)) 34 (nau 140)) := Lib.hid fun _ => rfl
      clear h hxr hLlen hLl st0
      generalize lS row len j = L at *
      generalize hx : row j = x at *
      clear hx
      go_upto_region 11 with (first | (with_reducible refine wpList_load_arg hI (by with_unfolding_all rfl) hcella (by simp) (by with_unfolding_all exact hagga) ?_) | ((with_reducible refine wpList_alloc_ia hI (by first | with_reducible exact zi22 | with_reducible exact zi24 | with_reducible exact zi25 | with_reducible exact zi26 | with_reducible exact zi28 | with_reducible exact zi47 | with_reducible exact zi73) ?_); clear hI; intro bx w hI) | ((with_reducible refine wpList_store_iw hI (by with_unfolding_all rfl) (by with_unfolding_all rfl) (by first | with_reducible exact uu0 | with_reducible exact uu1 | with_reducible exact uu2 | with_reducible exact uu3 | with_reducible exact uu4 | with_reducible exact uu5 | with_reducible exact uu6 | with_reducible exact uu7 | with_reducible exact uu8 | with_reducible exact uu9) (by first | with_reducible exact agg22 | with_reducible exact agg24 | with_reducible exact agg25 | with_reducible exact agg26 | with_reducible exact agg28 | with_reducible exact agg47 | with_reducible exact agg73) (by (repeat (first | rw [List.length_set] | rw [nau_len] | rw [sub_len] | rw [spl_len])) <;> omega) (by (repeat (first | rw [List.length_set] | rw [nau_len] | rw [sub_len] | rw [spl_len])) <;> omega) ?_); clear hI; intro w hI) | ((with_reducible refine wpList_build0_ia  (by first | with_reducible exact zi22 | with_reducible exact zi24 | with_reducible exact zi25 | with_reducible exact zi26 | with_reducible exact zi28 | with_reducible exact zi47 | with_reducible exact zi73) (by first | with_reducible exact kn22 | with_reducible exact kn24 | with_reducible exact kn25 | with_reducible exact kn26 | with_reducible exact kn28 | with_reducible exact kn47 | with_reducible exact kn73) ?_)) | ((with_reducible refine wpList_store_ia hI (by with_unfolding_all rfl) (by with_unfolding_all rfl) (by first | with_reducible exact uu0 | with_reducible exact uu1 | with_reducible exact uu2 | with_reducible exact uu3 | with_reducible exact uu4 | with_reducible exact uu5 | with_reducible exact uu6 | with_reducible exact uu7 | with_reducible exact uu8 | with_reducible exact uu9) (by first | with_reducible exact agg22 | with_reducible exact agg24 | with_reducible exact agg25 | with_reducible exact agg26 | with_reducible exact agg28 | with_reducible exact agg47 | with_reducible exact agg73) (by (repeat (first | rw [List.length_set] | rw [nau_len] | rw [sub_len] | rw [spl_len])) <;> omega) (by (repeat (first | rw [List.length_set] | rw [nau_len] | rw [sub_len] | rw [spl_len])) <;> omega) ?_); clear hI; intro w hI))
      (try simp only [Act.put])
      rw [← hzd.out] at hI
      have hzl := zr_len hxl
      clear hcella hagga hl3 hxl
      generalize zr x = z at *
      go_wp2_with (first | ((with_reducible refine wpList_load_iw hI (by with_unfolding_all rfl) (by first | with_reducible exact mm0 | with_reducible exact mm1 | with_reducible exact mm2 | with_reducible exact mm3 | with_reducible exact mm4 | with_reducible exact mm5 | with_reducible exact mm6 | with_reducible exact mm7 | with_reducible exact mm8 | with_reducible exact mm9) (by first | with_reducible exact agg22 | with_reducible exact agg24 | with_reducible exact agg25 | with_reducible exact agg26 | with_reducible exact agg28 | with_reducible exact agg47 | with_reducible exact agg73) (by (repeat (first | rw [List.length_set] | rw [nau_len] | rw [sub_len] | rw [spl_len])) <;> omega) ?_)) | ((with_reducible refine wpList_store_ia hI (by with_unfolding_all rfl) (by with_unfolding_all rfl) (by first | with_reducible exact uu0 | with_reducible exact uu1 | with_reducible exact uu2 | with_reducible exact uu3 | with_reducible exact uu4 | with_reducible exact uu5 | with_reducible exact uu6 | with_reducible exact uu7 | with_reducible exact uu8 | with_reducible exact uu9) (by first | with_reducible exact agg22 | with_reducible exact agg24 | with_reducible exact agg25 | with_reducible exact agg26 | with_reducible exact agg28 | with_reducible exact agg47 | with_reducible exact agg73) (by (repeat (first | rw [List.length_set] | rw [nau_len] | rw [sub_len] | rw [spl_len])) <;> omega) (by (repeat (first | rw [List.length_set] | rw [nau_len] | rw [sub_len] | rw [spl_len])) <;> omega) ?_); clear hI; intro w hI))
      go_roundg (len - (j + 1))
      case measure => omega
      case rel => exact ⟨j + 1, by omega, by omega, by go_num, by rw [hs.out]; exact hI.sub (.cons _ (.refl _))⟩
    · obtain rfl : len = j := by omega
      have hrw : ∀ i, i < len → (zr (row i)).length = 174 ∧ Wf (zr (row i)) := fun i hi => ⟨zr_len (h.row i hi).1, fun q => by
        rw [zr_gi (h.row i hi).1]
        split
        · omega
        · exact (h.row i hi).2.1 q⟩
      have hrz0 : ∀ i, i < len → (zr (row i)).length = 174 ∧ Wf (zr (row i)) ∧ sub (lS row len len) (i * 174) 174 = zr (row i) := fun i hi => ⟨(hrw i hi).1, (hrw i hi).2, lS_at (fun q hq => (h.row q hq).1) len (Nat.le_refl _) i hi⟩
      have hal := fS_alone (row := fun i => zr (row i)) hrw (fun i hi q hq => by rw [zr_gi (h.row i hi).1, if_pos (by omega)]) len (Nat.le_refl _)
      have hk0 := fS_bk (row := fun i => zr (row i)) len hrw len (Nat.le_refl _)
      have hsum := sums_law hk0 key hal
      have hnb := nS_bound hk0 key
      have hvb := vTo_bound hk0 key 5
      obtain ⟨rz, hrzd⟩ : ∃ rz : Nat → List Int, rz = fun i => zr (row i) := ⟨_, rfl⟩
      have hrz : ∀ i, i < len → (rz i).length = 174 ∧ Wf (rz i) ∧ sub (lS row len len) (i * 174) 174 = rz i := by rw [hrzd]; exact hrz0
      rw [← hrzd] at hsum hnb hvb hk0
      have hml := hk0.len
      have hk := Lib.hid hk0
      have hn5 : Hid (nS (fS rz len) key 5 = vTo (fS rz len) key 5) := Lib.hid (by rw [← hsum]; simp [nS])
      replace hnb := Lib.hid hnb
      clear hrw hrz0 hal hk0 hsum hrzd h hLlen st0
      generalize lS row len len = L at *
      go_upto_region 14 with (first | (go_at_call 32; (with_reducible refine (filled_any _ _ len len rz (ib_arg hI mm0 (by omega) hrz hLl.out)).mono ?_); rintro e w1 ⟨bb, rfl, hJ⟩; replace hI := hI.seq hJ; simp only [List.cons_append, List.nil_append] at hI; clear hJ) | ((with_reducible refine wpList_alloc_ia hI (by first | with_reducible exact zi22 | with_reducible exact zi24 | with_reducible exact zi25 | with_reducible exact zi26 | with_reducible exact zi28 | with_reducible exact zi47 | with_reducible exact zi73) ?_); clear hI; intro bx w hI) | ((with_reducible refine wpList_store_iw hI (by with_unfolding_all rfl) (by with_unfolding_all rfl) (by first | with_reducible exact uu0 | with_reducible exact uu1 | with_reducible exact uu2 | with_reducible exact uu3 | with_reducible exact uu4 | with_reducible exact uu5 | with_reducible exact uu6 | with_reducible exact uu7 | with_reducible exact uu8 | with_reducible exact uu9) (by first | with_reducible exact agg22 | with_reducible exact agg24 | with_reducible exact agg25 | with_reducible exact agg26 | with_reducible exact agg28 | with_reducible exact agg47 | with_reducible exact agg73) (by (repeat (first | rw [List.length_set] | rw [nau_len] | rw [sub_len] | rw [spl_len])) <;> omega) (by (repeat (first | rw [List.length_set] | rw [nau_len] | rw [sub_len] | rw [spl_len])) <;> omega) ?_); clear hI; intro w hI))
      (try simp only [Act.put])
      obtain ⟨b9, bk2, e9, ek⟩ := nmLL hI
      subst e9 ek
      clear hrz hLl
      generalize fS rz len = m at *
      obtain ⟨vv, hvv⟩ : ∃ vv, Hid (vTo m key 5 = vv) := ⟨_, Lib.hid rfl⟩
      rw [hvv.out] at hvb
      replace hn5 : Hid (nS m key 5 = vv) := Lib.hid (by rw [hn5.out, hvv.out])
      have st0 : Hid (nS m key 0 = 0) := Lib.hid rfl
      go_wp2_with fail
      go_loopg [10, 11, 43] 5 (fun kk s10 s11 i wr => ∃ l : Nat, kk = 5 - l ∧ l ≤ 5 ∧ i = .int .i64 l ∧ s10 = .int .i64 (nS m key l) ∧ Inv [] w0 wr [ib b9 47 m, ib bk2 73 m])
      case atStart => exact ⟨0, rfl, by omega, rfl, by rw [st0.out], hI.sub (.cons_cons _ (.cons_cons _ (.cons _ (.refl _))))⟩
      case round =>
        clear hI
        obtain ⟨l, rfl, hl, rfl, rfl, hI⟩ := hrel
        by_cases hl5 : l < 5
        · obtain ⟨⟨u0, u1⟩, u2⟩ := hnb.out l hl
          obtain ⟨u3, u4⟩ := u2 hl5
          have hs : Hid (nS m key (l + 1) = nS m key l + rightsF m (l : Nat) key) := Lib.hid rfl
          obtain ⟨rr, hrr⟩ : ∃ rr, Hid (rightsF m (l : Nat) key = rr) := ⟨_, Lib.hid rfl⟩
          rw [hrr.out] at u3 u4 hs
          clear u2 st0 hn5
          have z0 : -164926744166400 ≤ nS m key l := by omega
          have z1 : nS m key l ≤ 164926744166400 := by omega
          clear u0 u1
          generalize nS m key l = s at *
          go_wp2_with (first | (go_at_call 33; (with_reducible refine (rights_any _ bk2 73 m hk.out (hI.ibk (by (first | with_reducible exact mm0 | with_reducible exact mm1 | with_reducible exact mm2 | with_reducible exact mm3 | with_reducible exact mm4 | with_reducible exact mm5 | with_reducible exact mm6 | with_reducible exact mm7 | with_reducible exact mm8 | with_reducible exact mm9))) _ _).mono ?_); rw [hrr.out]; rintro e w1 ⟨rfl, hst, hbk⟩; replace hI := hI.icall (by (first | with_reducible exact uu0 | with_reducible exact uu1 | with_reducible exact uu2 | with_reducible exact uu3 | with_reducible exact uu4 | with_reducible exact uu5 | with_reducible exact uu6 | with_reducible exact uu7 | with_reducible exact uu8 | with_reducible exact uu9)) hst hbk; clear hst hbk))
          go_roundg (5 - (l + 1))
          case measure => omega
          case rel => exact ⟨l + 1, rfl, by omega, by go_num, by rw [hs.out], hI⟩
        · obtain rfl : l = 5 := by omega
          rw [hn5.out]
          have hvs : (vv == vv) = true := by simp
          go_wp2_with (first | (go_at_call 35; (with_reducible refine (value_any _ bk2 73 m hk.out (hI.ibk (by (first | with_reducible exact mm0 | with_reducible exact mm1 | with_reducible exact mm2 | with_reducible exact mm3 | with_reducible exact mm4 | with_reducible exact mm5 | with_reducible exact mm6 | with_reducible exact mm7 | with_reducible exact mm8 | with_reducible exact mm9))) _).mono ?_); rw [hvv.out]; rintro e w1 ⟨rfl, hst, hbk⟩; replace hI := hI.icall (by (first | with_reducible exact uu0 | with_reducible exact uu1 | with_reducible exact uu2 | with_reducible exact uu3 | with_reducible exact uu4 | with_reducible exact uu5 | with_reducible exact uu6 | with_reducible exact uu7 | with_reducible exact uu8 | with_reducible exact uu9)) hst hbk; clear hst hbk))
          go_ret
          exact ⟨rfl, hI.below⟩
theorem sums_cells (w0 : World) (a : Option Addr) (len c : Nat) (row : Nat → List Value) (k0 : Int) (h : SlArg w0 a len c (List.replicate 174 pInt) row) :
    Calls Try.prog 12 #[.slice a len c, .int .i64 k0] w0 fun e w' => e = .returned (.bool true) ∧ Below w0.heap.size w0 w' := by
  obtain ⟨r, hr⟩ := h.ints
  exact sums_walk w0 a len c r hr k0
end Go.Proofs.Ythncfjfgjdeajaa
