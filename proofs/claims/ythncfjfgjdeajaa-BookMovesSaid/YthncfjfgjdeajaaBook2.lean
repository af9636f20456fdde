/-
  Contracts of package book: Value, Rights. No condition but that the rows may be.
-/
import Derived.Test.YthncfjfgjdeajaaBook
namespace Go.Proofs.Ythncfjfgjdeajaa
open Go.RowKit
set_option maxRecDepth 100000
theorem agg84 : AggT Try.prog 84 35 := ⟨by kernel_rfl, by kernel_rfl⟩
theorem zi84 : ZeroI Try.prog 84 35 := by unfold ZeroI; kernel_rfl
/-- a cell of numbers that may be -/
def NumC (c : List Int) : Prop := c.length = 7 ∧ ∀ i, 0 ≤ gi c i ∧ gi c i ≤ 1099511627776
theorem gi_far {l : List Int} {i : Nat} (h : l.length ≤ i) : gi l i = 0 := by
  unfold gi; rw [List.getD_eq_getElem?_getD, List.getElem?_eq_none h]; rfl
theorem NumC.nau : NumC (nau 7) := ⟨nau_len 7, fun i => by rw [gi_nau]; omega⟩
theorem NumC.of {c : List Int} (hl : c.length = 7) (h : cellB c = true) : NumC c := by
  refine ⟨hl, fun i => ?_⟩
  obtain ⟨a, b, g, _⟩ := (cellB_iff c).1 h
  by_cases h0 : i = 0
  · subst h0; exact a
  by_cases h1 : i = 1
  · subst h1; exact b
  by_cases h7 : i < 7
  · have hsl : (sub c 2 5).length = 5 := by rw [sub_len]; omega
    have := g _ (gi_mem (sub c 2 5) (i - 2) (by omega))
    rw [gi_sub _ _ _ _ (by omega), show 2 + (i - 2) = i from by omega] at this
    exact this
  · rw [gi_far (by omega)]; omega
theorem cellF_num (x : List Int) (who of_ key : Int) (hx : x.length = 174) (hr : rowB x = true) : NumC (cellF x who of_ key).1 := by
  obtain ⟨_, a2, a3⟩ := rowB_of hr
  unfold cellF
  split
  · rename_i h
    obtain ⟨h1, h2, k0, k4⟩ := h
    obtain ⟨o0, o5⟩ := mach_of h2
    split
    · have := (allB_iff _ 4).1 a2 key.toNat (by omega)
      replace this : cellB (cellAt (cellsOf x) key.toNat) = true := this
      rw [cellAt_eq _ _ (by omega)] at this
      exact NumC.of (by rw [sub_len]; omega) this
    · split
      · have h3 := (leftB_of (a3 of_.toNat (by omega))).2.2
        have := (allB_iff _ 4).1 h3 key.toNat (by omega)
        replace this : cellB (cellAt (leftOf x of_.toNat) key.toNat) = true := this
        have e : cellAt (leftOf x of_.toNat) key.toNat = sub x (34 + of_.toNat * 28 + key.toNat * 7) 7 := by
          rw [leftOf_eq _ _ (by omega)]
          unfold cellAt sub
          rw [List.drop_take, List.drop_drop, List.take_take]
          congr 1
          omega
        rw [e] at this
        exact NumC.of (by rw [sub_len]; omega) this
      · exact NumC.nau
  · exact NumC.nau
theorem cTo_num (m : List Int) (of_ key : Int) (h : Bk m) : ∀ j, j ≤ 5 → NumC (cTo m of_ key j).1
  | 0, _ => NumC.nau
  | j + 1, hj => by
    unfold cTo
    split
    · exact cellF_num _ _ _ _ (by rw [sub_len, h.len]; omega) (h.row j (by omega)).1
    · exact cTo_num m of_ key h j (by omega)
theorem bCell_num {m : List Int} (h : Bk m) (of_ key : Int) : NumC (bCell m of_ key) := cTo_num m of_ key h 5 (by omega)
/-- what the first so many have -/
def vTo (m : List Int) (key : Int) : Nat → Int
  | 0 => 0
  | j + 1 => vTo m key j + (gi (bCell m j key) 0 - gi (bCell m j key) 1)
theorem vTo_bound {m : List Int} (h : Bk m) (key : Int) : ∀ j : Nat, -(j * 1099511627776 : Int) ≤ vTo m key j ∧ vTo m key j ≤ j * 1099511627776
  | 0 => by simp [vTo]
  | j + 1 => by
    have ih := vTo_bound h key j
    have h0 := (bCell_num h j key).2 0
    have h1 := (bCell_num h j key).2 1
    have e : ((j + 1 : Nat) : Int) * 1099511627776 = j * 1099511627776 + 1099511627776 := by omega
    unfold vTo
    rw [e]; omega
set_option maxHeartbeats 1600000 in
theorem value_any (w0 : World) (b : Nat) (e0 : TypeId) (m : List Int) (hk0 : Bk m) (hb : w0.heap[b]? = some (.cells (m.map (Value.int .i64)).toArray e0 (0, 0))) (key : Int) :
    Calls Try.prog 35 #[.pointer (some ⟨b, 0, none⟩), .int .i64 key] w0 fun e w' => e = .returned (.int .i64 (vTo m key 5)) ∧ Step [b] w0 w' ∧ w'.heap[b]? = some (.cells (m.map (Value.int .i64)).toArray e0 (0, 0)) := by
  have hI := takeI hb
  have hk := Lib.hid hk0
  clear hk0
  go_enter Try.func35, Try.ntmps35
  go_wp2_with fail
  go_loopg [5, 6, 7, 8] 5 (fun kk s5 s6 s7 i wr => ∃ j : Nat, kk = 5 - j ∧ j ≤ 5 ∧ i = .int .i64 j ∧ s5 = .int .i64 (vTo m key j) ∧ Inv [b] w0 wr [ib b e0 m])
  case atStart => exact ⟨0, rfl, by omega, rfl, rfl, hI⟩
  case round =>
    clear hI
    obtain ⟨j, rfl, hj, rfl, rfl, hI⟩ := hrel
    by_cases hj5 : j < 5
    · have hs : Hid (vTo m key (j + 1) = vTo m key j + (gi (bCell m j key) 0 - gi (bCell m j key) 1)) := Lib.hid rfl
      obtain ⟨cl, cn⟩ := bCell_num hk.out j key
      obtain ⟨v0, v1⟩ := vTo_bound hk.out key j
      have hv0 : -5497558138880 ≤ vTo m key j := by omega
      have hv1 : vTo m key j ≤ 5497558138880 := by omega
      clear v0 v1
      obtain ⟨c, hc⟩ : ∃ c, c = bCell m j key := ⟨_, rfl⟩
      rw [← hc] at hs cl cn
      have hcv := Lib.hid hc.symm
      clear hc
      obtain ⟨a0, a1⟩ := cn 0
      obtain ⟨a2, a3⟩ := cn 1
      clear cn
      generalize vTo m key j = s at *
      go_wp2_with (first | ((with_reducible refine wpList_alloc_ia hI (by first | with_reducible exact zi22 | with_reducible exact zi24 | with_reducible exact zi25 | with_reducible exact zi26 | with_reducible exact zi28 | with_reducible exact zi73 | with_reducible exact zi84) ?_); clear hI; intro bx w hI) | ((with_reducible refine wpList_store_iw hI (by with_unfolding_all rfl) (by with_unfolding_all rfl) (by first | with_reducible exact uu0 | with_reducible exact uu1 | with_reducible exact uu2 | with_reducible exact uu3 | with_reducible exact uu4 | with_reducible exact uu5 | with_reducible exact uu6 | with_reducible exact uu7 | with_reducible exact uu8 | with_reducible exact uu9) (by first | with_reducible exact agg22 | with_reducible exact agg24 | with_reducible exact agg25 | with_reducible exact agg26 | with_reducible exact agg28 | with_reducible exact agg73 | with_reducible exact agg84) (by (repeat (first | rw [List.length_set] | rw [nau_len] | rw [sub_len] | rw [spl_len])) <;> omega) (by (repeat (first | rw [List.length_set] | rw [nau_len] | rw [sub_len] | rw [spl_len])) <;> omega) ?_); clear hI; intro w hI) | ((with_reducible refine wpList_load_i1 hI (by with_unfolding_all rfl) (by first | with_reducible exact mm0 | with_reducible exact mm1 | with_reducible exact mm2 | with_reducible exact mm3 | with_reducible exact mm4 | with_reducible exact mm5 | with_reducible exact mm6 | with_reducible exact mm7 | with_reducible exact mm8 | with_reducible exact mm9) (by first | with_reducible exact one3 | with_reducible exact one4 | with_reducible exact one31) (by (repeat (first | rw [List.length_set] | rw [nau_len] | rw [sub_len] | rw [spl_len])) <;> omega) ?_)) | (go_at_call 34; (with_reducible refine (bcell_any _ b e0 m hk.out (hI.ibk (by (first | with_reducible exact mm0 | with_reducible exact mm1 | with_reducible exact mm2 | with_reducible exact mm3 | with_reducible exact mm4 | with_reducible exact mm5 | with_reducible exact mm6 | with_reducible exact mm7 | with_reducible exact mm8 | with_reducible exact mm9))) _ _).mono ?_); rw [hcv.out]; rintro e w1 ⟨rfl, hst, hbk⟩; replace hI := hI.icall (by (first | with_reducible exact uu0 | with_reducible exact uu1 | with_reducible exact uu2 | with_reducible exact uu3 | with_reducible exact uu4 | with_reducible exact uu5 | with_reducible exact uu6 | with_reducible exact uu7 | with_reducible exact uu8 | with_reducible exact uu9)) hst hbk; clear hst hbk))
      go_roundg (5 - (j + 1))
      case measure => omega
      case rel => exact ⟨j + 1, rfl, by omega, by go_num, by rw [hs.out], hI.sub (.cons _ (.refl _))⟩
    · obtain rfl : j = 5 := by omega
      go_wp2_with fail
      go_ret
      exact ⟨rfl, hI.end_, hI.ibk (by (first | with_reducible exact mm0 | with_reducible exact mm1 | with_reducible exact mm2 | with_reducible exact mm3 | with_reducible exact mm4 | with_reducible exact mm5 | with_reducible exact mm6 | with_reducible exact mm7 | with_reducible exact mm8 | with_reducible exact mm9))⟩
/-- the cells of a key, one behind the other -/
def allC (m : List Int) (key : Int) : Nat → List Int
  | 0 => nau 35
  | j + 1 => spl (allC m key j) (j * 7) (bCell m j key)
theorem allC_len {m : List Int} (h : Bk m) (key : Int) : ∀ j, j ≤ 5 → (allC m key j).length = 35
  | 0, _ => nau_len 35
  | j + 1, hj => by
    have := allC_len h key j (by omega)
    have hc := (bCell_num h j key).1
    unfold allC
    rw [spl_len]; omega
theorem allC_num {m : List Int} (h : Bk m) (key : Int) : ∀ j, j ≤ 5 → ∀ i, 0 ≤ gi (allC m key j) i ∧ gi (allC m key j) i ≤ 1099511627776
  | 0, _, i => by unfold allC; rw [gi_nau]; omega
  | j + 1, hj, i => by
    have hl := allC_len h key j (by omega)
    have hc := bCell_num h j key
    unfold allC
    rw [gi_spl _ _ _ _ (by rw [hc.1, hl]; omega)]
    split
    · exact hc.2 _
    · exact allC_num h key j (by omega) i
theorem allC_at {m : List Int} (h : Bk m) (key : Int) : ∀ j, j ≤ 5 → ∀ o f, o < j → f < 7 → gi (allC m key j) (o * 7 + f) = gi (bCell m o key) f
  | 0, _, o, f, ho, _ => by omega
  | j + 1, hj, o, f, ho, hf => by
    have hl := allC_len h key j (by omega)
    have hc := (bCell_num h j key).1
    unfold allC
    rw [gi_spl _ _ _ _ (by rw [hc, hl]; omega), hc]
    by_cases he : o = j
    · subst he
      rw [if_pos (by omega)]
      congr 1; omega
    · rw [if_neg (by omega)]
      exact allC_at h key j (by omega) o f (by omega) hf
/-- what one was given, less what it gave, by the first so many -/
def rIn (cs : List Int) (o : Nat) : Nat → Int
  | 0 => 0
  | k + 1 => rIn cs o k + (gi cs (k * 7 + 2 + o) - gi cs (o * 7 + 2 + k))
/-- rights of the first so many of a list -/
def rTo (cs L : List Int) : Nat → Int
  | 0 => 0
  | j + 1 => rTo cs L j + (gi cs ((gi L j).toNat * 7) - gi cs ((gi L j).toNat * 7 + 1)) + rIn cs (gi L j).toNat 5
theorem rIn_bound {cs : List Int} (h : ∀ i, 0 ≤ gi cs i ∧ gi cs i ≤ 1099511627776) (o : Nat) : ∀ k : Nat, -(k * 1099511627776 : Int) ≤ rIn cs o k ∧ rIn cs o k ≤ k * 1099511627776
  | 0 => by simp [rIn]
  | k + 1 => by
    have ih := rIn_bound h o k
    have h0 := h (k * 7 + 2 + o)
    have h1 := h (o * 7 + 2 + k)
    have e : ((k + 1 : Nat) : Int) * 1099511627776 = k * 1099511627776 + 1099511627776 := by omega
    unfold rIn
    rw [e]; omega
theorem rTo_bound {cs : List Int} (h : ∀ i, 0 ≤ gi cs i ∧ gi cs i ≤ 1099511627776) (L : List Int) : ∀ j : Nat, -(j * 6597069766656 : Int) ≤ rTo cs L j ∧ rTo cs L j ≤ j * 6597069766656
  | 0 => by simp [rTo]
  | j + 1 => by
    have ih := rTo_bound h L j
    have h0 := h ((gi L j).toNat * 7)
    have h1 := h ((gi L j).toNat * 7 + 1)
    have h2 := rIn_bound h (gi L j).toNat 5
    have e : ((j + 1 : Nat) : Int) * 6597069766656 = j * 6597069766656 + 6597069766656 := by omega
    unfold rTo
    rw [e]; omega
theorem ownTo_mem (x : List Int) (who : Int) : ∀ g ∈ ownTo x who 5, 0 ≤ g ∧ g < 5 := by
  intro g hg
  unfold ownTo at hg
  obtain ⟨i, hi, rfl⟩ := List.mem_map.1 hg
  have := List.mem_range.1 (List.mem_filter.1 hi).1
  omega
end Go.Proofs.Ythncfjfgjdeajaa
