/-
  Contracts of link.Frame and link.Open. Conditions: no more than 90000 bytes.
-/
import Derived.Test.YtckoiabainpamaaSumAny
namespace Go.Proofs.Ytckoiabainpamaa
open Go.RowKit

/-- a frame's bytes -/
def frameF (f t : UInt8) (b : List UInt8) : List UInt8 := putF (f :: t :: b)
def openF (f t : UInt8) (p : List UInt8) : Option (List UInt8) :=
  match takeF p with
  | some (x :: y :: r) => if x = f ∧ y = t then some r else none
  | _ => none
theorem open_frame (f t : UInt8) (b : List UInt8) : openF f t (frameF f t b) = some b := by
  unfold openF frameF; rw [take_put]; simp
theorem frame_open {f t : UInt8} {p r : List UInt8} (h : openF f t p = some r) : frameF f t r = p := by
  unfold openF at h
  split at h
  · rename_i x y r' ht
    split at h
    · rename_i hc
      obtain ⟨rfl, rfl⟩ := hc
      cases h
      exact put_take ht
    · cases h
  · cases h
theorem open_other {f t f' t' : UInt8} (b : List UInt8) (h : ¬ (f = f' ∧ t = t')) : openF f' t' (frameF f t b) = none := by
  unfold openF frameF; rw [take_put]; simp only; rw [if_neg h]
theorem openF_none {f t : UInt8} {p : List UInt8} (h : takeF p = none) : openF f t p = none := by unfold openF; rw [h]
theorem frameF_len (f t : UInt8) (b : List UInt8) : (frameF f t b).length = b.length + 6 := by unfold frameF; rw [putF_len]; simp

theorem put_xn (w0 : World) (H : Nat) (hH : w0.heap.size = H) (a : Option Addr) (n c : Nat) (bs : List UInt8) (hn : bs.length = n) (hr : Rd w0 a (bs.map bv)) (hl : n ≤ 100000) :
    Calls Try.prog 19 #[.slice a n c] w0 fun e w' => e = .returned (.slice (some ⟨H + 1, 0, none⟩) (n + 4) (n + 4)) ∧ w'.heap.size = H + 3 ∧ Inv [] w0 w' [osl 5 1 (.slice (some ⟨H + 1, 0, none⟩) (n + 4) (n + 4)) (n + 4) ((putF bs).map bv)] := by
  subst hn
  exact put_x w0 H hH a c bs hr hl

set_option maxHeartbeats 800000 in
theorem frame_x (w0 : World) (H : Nat) (hH : w0.heap.size = H) (z1 z2 : Int) (f t : UInt8) (h1 : z1 = (f.toNat : Int)) (h2 : z2 = (t.toNat : Int)) (a : Option Addr) (n c : Nat) (bs : List UInt8) (hn : bs.length = n) (hr : Rd w0 a (bs.map bv)) (hl : n ≤ 90000) :
    Calls Try.prog 34 #[.int .i64 z1, .int .i64 z2, .slice a n c] w0 fun e w' => e = .returned (.slice (some ⟨H + 3, 0, none⟩) (2 + n + 4) (2 + n + 4)) ∧ w'.heap.size = H + 5 ∧ Inv [] w0 w' [osl 5 1 (.slice (some ⟨H + 3, 0, none⟩) (2 + n + 4) (2 + n + 4)) (2 + n + 4) ((frameF f t bs).map bv)] := by
  subst h1 h2 hn
  have hI := Inv.start w0
  have hf := f.toNat_lt
  have ht := t.toNat_lt
  have hbv : Hid ([Value.int .u8 (f.toNat : Int), .int .u8 (t.toNat : Int)] ++ bs.map bv = (f :: t :: bs).map bv) := Lib.hid (by simp [bv])
  have hH2 := Lib.hid hH
  clear hH
  go_enter Try.func34, Try.ntmps34
  have hH := hH2.out
  clear hH2
  go_wp2_with (first | (with_reducible refine wpList_make0_x (c := 2 + bs.length) hI hH slT22 (by with_unfolding_all rfl) (by with_unfolding_all rfl) (by omega) (by simp only [maxLen]; omega) ?_; clear hI hH; intro w hI hH) | (with_reducible refine wpList_bslice2i_x hI hH slT22 (by with_unfolding_all rfl) (by with_unfolding_all rfl) ?_; clear hI hH; intro w hI hH) | (with_reducible refine wpList_append_x (q := 2) hI hH (by with_unfolding_all rfl) (by with_unfolding_all rfl) slT22 (by intro r'; exact Upd.there Upd.here) (hI.rd (by (first | with_reducible exact mm0 | with_reducible exact mm1 | with_reducible exact mm2 | with_reducible exact mm3 | with_reducible exact mm4 | with_reducible exact mm5 | with_reducible exact mm6 | with_reducible exact mm7 | with_reducible exact mm8 | with_reducible exact mm9))) (by with_unfolding_all rfl) (by simp [Value.oneCell']) (by omega) ?_; clear hI hH; intro w hI hH; simp only [Nat.zero_add, List.nil_append] at hI; simp only [Nat.zero_add]) | (with_reducible refine wpList_append_x (q := bs.length) hI hH (by with_unfolding_all rfl) (by with_unfolding_all rfl) slT22 (by intro r'; exact Upd.there Upd.here) (hI.rd0 hr) (by simp) (bv_one _) (by omega) ?_; clear hI hH; intro w hI hH; rw [hbv.out] at hI) | (go_at_call 19; refine (put_xn _ _ hH _ _ _ (f :: t :: bs) (by simp only [List.length_cons]; omega) (hI.rd (by (first | with_reducible exact mm0 | with_reducible exact mm1 | with_reducible exact mm2 | with_reducible exact mm3 | with_reducible exact mm4 | with_reducible exact mm5 | with_reducible exact mm6 | with_reducible exact mm7 | with_reducible exact mm8 | with_reducible exact mm9))) (by omega)).mono ?_; rintro e w1 ⟨rfl, hH2, hJ⟩; clear hH; have hH := hH2; clear hH2; replace hI := hI.seq hJ; simp only [List.cons_append, List.nil_append] at hI; clear hJ))
  go_ret
  exact ⟨rfl, hH, hI.sub (.cons_cons _ (List.nil_sublist _))⟩

theorem rd_at {w : World} {b off : Nat} {p : List UInt8} (h : Rd w (some ⟨b, off, none⟩) (p.map bv)) (i : Nat) (u : UInt8) (hi : p[i]? = some u) : w.cell? ⟨b, off + i, none⟩ = some (.int .u8 (u.toNat : Int)) := by
  obtain ⟨b', off', hab, hc⟩ := h i (bv u) (by rw [List.getElem?_map, hi]; rfl)
  cases hab
  exact hc
/-- what Open gives back -/
def OpenP (w0 : World) (f t : UInt8) (p : List UInt8) (e : Ending) (w' : World) : Prop :=
  (∃ r a' c', openF f t p = some r ∧ e = .returned (.tuple #[.slice a' r.length c', .bool true]) ∧ Rd w' a' (r.map bv) ∧ Below w0.heap.size w0 w') ∨
  (openF f t p = none ∧ e = .returned (.tuple #[.slice none 0 0, .bool false]) ∧ Below w0.heap.size w0 w')

set_option maxHeartbeats 1600000 in
theorem open_none (w0 : World) (f t : UInt8) (a : Option Addr) (n c : Nat) (p : List UInt8) (hn : p.length = n) (hr : Rd w0 a (p.map bv)) (hc : n ≤ c) (hl : n ≤ 100000) (h : openF f t p = none) :
    Calls Try.prog 35 #[.int .i64 (f.toNat : Int), .int .i64 (t.toNat : Int), .slice a n c] w0 fun e w' => e = .returned (.tuple #[.slice none 0 0, .bool false]) ∧ Below w0.heap.size w0 w' := by
  have hI := Inv.start w0
  have hf := f.toNat_lt
  have ht := t.toNat_lt
  cases hp : takeF p with
  | none =>
    replace hp := Lib.hid hp
    go_enter Try.func35, Try.ntmps35
    go_wp2_with (first | ((with_reducible refine wpList_on  (by with_unfolding_all rfl) ?_)) | (go_at_call 20; refine (take_none p _ _ _ hn hp.out (hI.rd0 hr) hc hl).mono ?_; rintro e w3 ⟨rfl, hw3⟩; replace hI := hI.call hw3; clear hw3))
    go_ret2
    exact ⟨rfl, hI.below⟩
  | some q =>
    have hq4 : q.length + 4 = n := by rw [← hn, ← put_take hp, putF_len]
    replace hp := Lib.hid hp
    match q, hp, hq4 with
    | [], hp, hq4 =>
      go_enter Try.func35, Try.ntmps35
      go_wp2_with (first | ((with_reducible refine wpList_on  (by with_unfolding_all rfl) ?_)) | (go_at_call 20; refine (take_some p [] _ _ _ hn hp.out (hI.rd0 hr) hc hl).mono ?_; rintro e w3 ⟨a2, c2, rfl, hJ⟩; replace hI := hI.seq hJ; clear hJ))
      go_ret2
      exact ⟨rfl, hI.below⟩
    | [x], hp, hq4 =>
      go_enter Try.func35, Try.ntmps35
      go_wp2_with (first | ((with_reducible refine wpList_on  (by with_unfolding_all rfl) ?_)) | (go_at_call 20; refine (take_some p [x] _ _ _ hn hp.out (hI.rd0 hr) hc hl).mono ?_; rintro e w3 ⟨a2, c2, rfl, hJ⟩; replace hI := hI.seq hJ; clear hJ))
      go_ret2
      exact ⟨rfl, hI.below⟩
    | x :: y :: r, hp, hq4 =>
      have hxy : ¬ (x = f ∧ y = t) := by
        intro hc
        unfold openF at h
        rw [hp.out] at h
        simp only [if_pos hc] at h
        cases h
      have hx := x.toNat_lt
      have hy := y.toNat_lt
      have hql : (x :: y :: r).length = r.length + 2 := rfl
      have hrl : r.length ≤ 100000 := by simp only [List.length_cons] at hq4; omega
      have two : ((x.toNat : Int) != (f.toNat : Int)) = true ∨ (((x.toNat : Int) != (f.toNat : Int)) = false ∧ ((y.toNat : Int) != (t.toNat : Int)) = true) := by
        by_cases h1 : x = f
        · refine .inr ⟨by simp [h1], ?_⟩
          have : y ≠ t := fun h2 => hxy ⟨h1, h2⟩
          have h3 : y.toNat ≠ t.toNat := fun h => this (UInt8.toNat_inj.1 h)
          simp; omega
        · have h3 : x.toNat ≠ f.toNat := fun h => h1 (UInt8.toNat_inj.1 h)
          exact .inl (by simp; omega)
      clear hxy h hq4
      rcases two with h1 | ⟨h1, h2⟩
      all_goals
        go_enter Try.func35, Try.ntmps35
        go_wp2_with (first | ((with_reducible refine wpList_on  (by with_unfolding_all rfl) ?_)) | (go_at_call 20; refine (take_some p (x :: y :: r) _ _ _ hn hp.out (hI.rd0 hr) hc hl).mono ?_; rintro e w3 ⟨a2, c2, rfl, hJ⟩; replace hI := hI.seq hJ; simp only [List.cons_append, List.nil_append] at hI; clear hJ; obtain ⟨gq, hgq⟩ := osl_some (a' := a2) hI (by (first | with_reducible exact mm0 | with_reducible exact mm1 | with_reducible exact mm2 | with_reducible exact mm3 | with_reducible exact mm4 | with_reducible exact mm5 | with_reducible exact mm6 | with_reducible exact mm7 | with_reducible exact mm8 | with_reducible exact mm9)) (by simp); subst hgq; have hc2 := osl_cap hI (by (first | with_reducible exact mm0 | with_reducible exact mm1 | with_reducible exact mm2 | with_reducible exact mm3 | with_reducible exact mm4 | with_reducible exact mm5 | with_reducible exact mm6 | with_reducible exact mm7 | with_reducible exact mm8 | with_reducible exact mm9)); have k0 := rd_at (hI.rd (a' := some ⟨gq, 0, none⟩) (by (first | with_reducible exact mm0 | with_reducible exact mm1 | with_reducible exact mm2 | with_reducible exact mm3 | with_reducible exact mm4 | with_reducible exact mm5 | with_reducible exact mm6 | with_reducible exact mm7 | with_reducible exact mm8 | with_reducible exact mm9))) 0 x rfl; have k1 := rd_at (hI.rd (a' := some ⟨gq, 0, none⟩) (by (first | with_reducible exact mm0 | with_reducible exact mm1 | with_reducible exact mm2 | with_reducible exact mm3 | with_reducible exact mm4 | with_reducible exact mm5 | with_reducible exact mm6 | with_reducible exact mm7 | with_reducible exact mm8 | with_reducible exact mm9))) 1 y rfl; simp only [List.length_cons] at hc2 ⊢))
        go_ret2
        exact ⟨rfl, hI.below⟩

def OpenS (w0 : World) (r : List UInt8) (e : Ending) (w' : World) : Prop := ∃ a' c', r.length ≤ c' ∧ e = .returned (.tuple #[.slice a' r.length c', .bool true]) ∧ Rd w' a' (r.map bv) ∧ Below w0.heap.size w0 w'
set_option maxHeartbeats 1600000 in
theorem open_some (w0 : World) (f t : UInt8) (a : Option Addr) (n c : Nat) (p r : List UInt8) (hn : p.length = n) (hr : Rd w0 a (p.map bv)) (hc : n ≤ c) (hl : n ≤ 100000) (h : openF f t p = some r) :
    Calls Try.prog 35 #[.int .i64 (f.toNat : Int), .int .i64 (t.toNat : Int), .slice a n c] w0 (OpenS w0 r) := by
  have hI := Inv.start w0
  have hf := f.toNat_lt
  have ht := t.toNat_lt
  obtain ⟨x, y, rfl, rfl, hp⟩ : ∃ x y, x = f ∧ y = t ∧ takeF p = some (x :: y :: r) := by
    unfold openF at h
    split at h
    · rename_i x y r' htk
      split at h
      · rename_i hcc
        cases h
        exact ⟨x, y, hcc.1, hcc.2, htk⟩
      · cases h
    · cases h
  have hrl : r.length ≤ 100000 := by
    have := put_take hp
    rw [← hn, ← this, putF_len, List.length_cons, List.length_cons] at hl
    omega
  replace hp := Lib.hid hp
  clear h
  go_enter Try.func35, Try.ntmps35
  go_wp2_with (first | ((with_reducible refine wpList_on  (by with_unfolding_all rfl) ?_)) | (go_at_call 20; refine (take_some p (x :: y :: r) _ _ _ hn hp.out (hI.rd0 hr) hc hl).mono ?_; rintro e w3 ⟨a2, c2, rfl, hJ⟩; replace hI := hI.seq hJ; simp only [List.cons_append, List.nil_append] at hI; clear hJ; obtain ⟨gq, hgq⟩ := osl_some (a' := a2) hI (by (first | with_reducible exact mm0 | with_reducible exact mm1 | with_reducible exact mm2 | with_reducible exact mm3 | with_reducible exact mm4 | with_reducible exact mm5 | with_reducible exact mm6 | with_reducible exact mm7 | with_reducible exact mm8 | with_reducible exact mm9)) (by simp); subst hgq; have hc2 := osl_cap hI (by (first | with_reducible exact mm0 | with_reducible exact mm1 | with_reducible exact mm2 | with_reducible exact mm3 | with_reducible exact mm4 | with_reducible exact mm5 | with_reducible exact mm6 | with_reducible exact mm7 | with_reducible exact mm8 | with_reducible exact mm9)); have k0 := rd_at (hI.rd (a' := some ⟨gq, 0, none⟩) (by (first | with_reducible exact mm0 | with_reducible exact mm1 | with_reducible exact mm2 | with_reducible exact mm3 | with_reducible exact mm4 | with_reducible exact mm5 | with_reducible exact mm6 | with_reducible exact mm7 | with_reducible exact mm8 | with_reducible exact mm9))) 0 x rfl; have k1 := rd_at (hI.rd (a' := some ⟨gq, 0, none⟩) (by (first | with_reducible exact mm0 | with_reducible exact mm1 | with_reducible exact mm2 | with_reducible exact mm3 | with_reducible exact mm4 | with_reducible exact mm5 | with_reducible exact mm6 | with_reducible exact mm7 | with_reducible exact mm8 | with_reducible exact mm9))) 1 y rfl; simp only [List.length_cons] at hc2 ⊢))
  · go_ret2
    have hr0 : r.length = 0 := by omega
    obtain rfl := List.eq_nil_of_length_eq_zero hr0
    exact ⟨_, _, Nat.le_refl _, rfl, Rd.nil _ _, hI.below⟩
  · go_ret2
    have hrd := (hI.rd (a' := some ⟨gq, 0, none⟩) (by (first | with_reducible exact mm0 | with_reducible exact mm1 | with_reducible exact mm2 | with_reducible exact mm3 | with_reducible exact mm4 | with_reducible exact mm5 | with_reducible exact mm6 | with_reducible exact mm7 | with_reducible exact mm8 | with_reducible exact mm9))).map_drop (f := bv) 2
    exact ⟨_, _, by omega, rfl, by simpa using hrd, hI.below⟩

theorem open_any (w0 : World) (f t : UInt8) (a : Option Addr) (n c : Nat) (p : List UInt8) (hn : p.length = n) (hr : Rd w0 a (p.map bv)) (hc : n ≤ c) (hl : n ≤ 100000) :
    Calls Try.prog 35 #[.int .i64 (f.toNat : Int), .int .i64 (t.toNat : Int), .slice a n c] w0 (OpenP w0 f t p) := by
  cases h : openF f t p with
  | none => exact (open_none w0 f t a n c p hn hr hc hl h).mono fun e w' hh => .inr ⟨h, hh⟩
  | some r =>
    refine (open_some w0 f t a n c p r hn hr hc hl h).mono ?_
    rintro e w' ⟨a', c', _, h1, h2, h3⟩
    exact .inl ⟨r, a', c', h, h1, h2, h3⟩
theorem open_z {w0 : World} {f t : UInt8} {a : Option Addr} {n c : Nat} {R : Ending → World → Prop} (h : Calls Try.prog 35 #[.int .i64 (f.toNat : Int), .int .i64 (t.toNat : Int), .slice a n c] w0 R) (z1 z2 : Int) (h1 : z1 = (f.toNat : Int)) (h2 : z2 = (t.toNat : Int)) :
    Calls Try.prog 35 #[.int .i64 z1, .int .i64 z2, .slice a n c] w0 R := by subst h1 h2; exact h

theorem frame_any (w0 : World) (z1 z2 : Int) (f t : UInt8) (h1 : z1 = (f.toNat : Int)) (h2 : z2 = (t.toNat : Int)) (a : Option Addr) (n c : Nat) (bs : List UInt8) (hn : bs.length = n) (hr : Rd w0 a (bs.map bv)) (hl : n ≤ 90000) :
    Calls Try.prog 34 #[.int .i64 z1, .int .i64 z2, .slice a n c] w0 fun e w' => ∃ g, e = .returned (.slice (some ⟨g, 0, none⟩) (n + 6) (n + 6)) ∧ Inv [] w0 w' [osl 5 1 (.slice (some ⟨g, 0, none⟩) (n + 6) (n + 6)) (n + 6) ((frameF f t bs).map bv)] :=
  (frame_x w0 _ rfl z1 z2 f t h1 h2 a n c bs hn hr hl).mono fun e w' ⟨he, _, hI⟩ => by
    have e6 : 2 + n + 4 = n + 6 := by omega
    rw [e6] at he hI
    exact ⟨_, he, hI⟩
end Go.Proofs.Ytckoiabainpamaa
