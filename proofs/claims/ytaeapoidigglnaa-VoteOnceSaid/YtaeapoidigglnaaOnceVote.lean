/-
  What VoteOnce's calls do to an acceptor and to a vote, by the plain law's states. No condition.
-/
import Derived.Test.YtaeapoidigglnaaOnceLaw
import Derived.Test.YtaeapoidigglnaaBallot
namespace Go.Proofs.Ytaeapoidigglnaa
open Go.RowKit
/-- an acceptor, a vow, a vote as numbers -/
def acZ (e : Int) (x : Ac) : List Int := [e, x.r, x.rw, x.h, x.hw] ++ x.c
def vwC (x : Vw) : List Value := [.int .i64 x.h, .int .i64 x.hw] ++ x.c.map (Value.int .i64) ++ [.bool x.t]
def vtZ (v : List Int) (W : Nat → Int) (i : Nat) (x : Vt) : List Int := v ++ [(i : Int) + 1, W i] ++ x.ch ++ [(x.b : Int), x.bw] ++ [x.V, x.K]
def tryZ (W : Nat → Int) (i : Nat) : List Int := [(i : Int) + 1, W i]
theorem acZ_len {e : Int} {x : Ac} (h : x.c.length = 3) : (acZ e x).length = 8 := by simp [acZ, h]
theorem acZ_had {e : Int} {x : Ac} (h : x.c.length = 3) : sub (acZ e x) 3 2 = [(x.h : Int), x.hw] ∧ sub (acZ e x) 5 3 = x.c := by
  obtain ⟨r, hh, rw, hw, c⟩ := x
  match c, h with
  | [c0, c1, c2], _ => exact ⟨rfl, rfl⟩
theorem refuse_no {e : Int} {x : Ac} {W : Nat → Int} {i : Nat} (hw : 0 < x.r → x.rw = W (x.r - 1)) (h : x.r ≤ i + 1) : refusesB e (x.r : Int) x.rw e ((i : Int) + 1) (W i) = false := by
  unfold refusesB lessB
  rw [show decide (¬ e = e) = false by simp, show decide ((i : Int) + 1 < 1) = false by simp; omega]
  by_cases hr : (i : Int) + 1 = x.r
  · rw [if_pos hr]
    have h1 : x.r = i + 1 := by omega
    rw [hw (by omega), h1]; simp
  · rw [if_neg hr]; simp; omega
theorem refuse_yes {e : Int} {x : Ac} {W : Nat → Int} {i : Nat} (h : ¬ x.r ≤ i + 1) : refusesB e (x.r : Int) x.rw e ((i : Int) + 1) (W i) = true := by
  unfold refusesB lessB
  rw [if_neg (by omega)]; simp; omega
theorem ask_ac (w0 : World) (e : Int) {x : Ac} (W : Nat → Int) (i : Nat) (hc : x.c.length = 3) (hw : 0 < x.r → x.rw = W (x.r - 1)) (h : x.r ≤ i + 1) :
    Calls Try.prog 20 #[ia (acZ e x), .int .i64 e, ia (tryZ W i)] w0 fun er w' => er = .returned (.tuple #[ia (acZ e ⟨i + 1, x.h, W i, x.hw, x.c⟩), .bool true]) ∧ Below w0.heap.size w0 w' := by
  have hr := refuse_no (e := e) hw h
  obtain ⟨r, hh, rw, hw2, c⟩ := x
  match c, hc with
  | [c0, c1, c2], _ =>
    have := ask_yes w0 e r rw hh hw2 c0 c1 c2 e ((i : Int) + 1) (W i) hr
    simpa [ia, acZ, tryZ] using this
theorem ask_ac_no (w0 : World) (e : Int) {x : Ac} (W : Nat → Int) (i : Nat) (hc : x.c.length = 3) (h : ¬ x.r ≤ i + 1) :
    Calls Try.prog 20 #[ia (acZ e x), .int .i64 e, ia (tryZ W i)] w0 fun er w' => er = .returned (.tuple #[ia (acZ e x), .bool false]) ∧ Below w0.heap.size w0 w' := by
  have hr := refuse_yes (e := e) (W := W) h
  obtain ⟨r, hh, rw, hw2, c⟩ := x
  match c, hc with
  | [c0, c1, c2], _ =>
    have := ask_no w0 e r rw hh hw2 c0 c1 c2 e ((i : Int) + 1) (W i) hr
    simpa [ia, acZ, tryZ] using this
theorem put_ac (w0 : World) (e : Int) {x : Ac} (W : Nat → Int) (i : Nat) {d : List Int} (hc : x.c.length = 3) (hd : d.length = 3) (hw : 0 < x.r → x.rw = W (x.r - 1)) (h : x.r ≤ i + 1) :
    Calls Try.prog 19 #[ia (acZ e x), .int .i64 e, ia (tryZ W i), ia d] w0 fun er w' => er = .returned (.tuple #[ia (acZ e ⟨i + 1, i + 1, W i, W i, d⟩), .bool true]) ∧ Below w0.heap.size w0 w' := by
  have hr := refuse_no (e := e) hw h
  obtain ⟨r, hh, rw, hw2, c⟩ := x
  match c, hc, d, hd with
  | [c0, c1, c2], _, [d0, d1, d2], _ =>
    have := put_yes w0 e r rw hh hw2 c0 c1 c2 e ((i : Int) + 1) (W i) d0 d1 d2 hr
    simpa [ia, acZ, tryZ] using this
theorem put_ac_no (w0 : World) (e : Int) {x : Ac} (W : Nat → Int) (i : Nat) {d : List Int} (hc : x.c.length = 3) (hd : d.length = 3) (h : ¬ x.r ≤ i + 1) :
    Calls Try.prog 19 #[ia (acZ e x), .int .i64 e, ia (tryZ W i), ia d] w0 fun er w' => er = .returned (.tuple #[ia (acZ e x), .bool false]) ∧ Below w0.heap.size w0 w' := by
  have hr := refuse_yes (e := e) (W := W) h
  obtain ⟨r, hh, rw, hw2, c⟩ := x
  match c, hc, d, hd with
  | [c0, c1, c2], _, [d0, d1, d2], _ =>
    have := put_no w0 e r rw hh hw2 c0 c1 c2 e ((i : Int) + 1) (W i) d0 d1 d2 hr
    simpa [ia, acZ, tryZ] using this
theorem vtZ_parts {v : List Int} (W : Nat → Int) (i : Nat) {x : Vt} (hv : v.length = 7) (hc : x.ch.length = 3) : (vtZ v W i x).length = 16 ∧ sub (vtZ v W i x) 0 7 = v ∧ sub (vtZ v W i x) 7 2 = tryZ W i ∧ sub (vtZ v W i x) 9 3 = x.ch ∧ sub (vtZ v W i x) 12 2 = [(x.b : Int), x.bw] ∧
    gi (vtZ v W i x) 14 = x.V ∧ gi (vtZ v W i x) 15 = x.K ∧ (∀ k, bitZ (vtZ v W i x) 14 k = vtZ v W i { x with V := orV x.V k }) ∧ (∀ k, bitZ (vtZ v W i x) 15 k = vtZ v W i { x with K := orV x.K k }) ∧
    (∀ k (h : Nat) hw c, c.length = 3 → turnZ (vtZ v W i x) k [(h : Int), hw] c = vtZ v W i { x with V := orV x.V k, b := h, bw := hw, ch := c }) := by
  obtain ⟨ch, b, bw, V, K, P⟩ := x
  match v, hv, ch, hc with
  | [v0, v1, v2, v3, v4, v5, v6], _, [a0, a1, a2], _ =>
    refine ⟨rfl, rfl, rfl, rfl, rfl, rfl, rfl, fun k => rfl, fun k => rfl, fun k h hw c h2 => ?_⟩
    match c, h2 with
    | [c0, c1, c2], _ => rfl
theorem vt_new (v : List Int) (W : Nat → Int) (n : Nat) (w : Int) (c : List Int) : newZ v [(n : Int) + 1, w] c = vtZ v (upf W n w) n ⟨c, 0, 0, 0, 0, false⟩ := by
  simp [newZ, vtZ, upf_at]
theorem vtZ_P (v : List Int) (W : Nat → Int) (i : Nat) (x : Vt) (b : Bool) : vtZ v W i { x with P := b } = vtZ v W i x := rfl
section
variable (w0 : World) (p : Nat) {v : List Int} (W : Nat → Int) (i : Nat) {a : Nat} {x : Vt} (hv : v.length = 7) (hc : x.ch.length = 3)
include hv hc
theorem vowed_v_yes {y : Vw} (hP : x.P = true) (hyc : y.c.length = 3) (hb : w0.heap[p]? = some (.cells (mix (vtZ v W i x) [x.P]).toArray 92 (0, 0))) :
    Calls Try.prog 31 #[.pointer (some ⟨p, 0, none⟩), .int .i64 a, ia (tryZ W i), ia [(y.h : Int), y.hw], ia y.c] w0 fun e w' => e = .returned (.bool false) ∧ Step [p] w0 w' ∧ w'.heap[p]? = some (.cells (mix (vtZ v W i x) [x.P]).toArray 92 (0, 0)) := by
  obtain ⟨zl, _⟩ := vtZ_parts W i hv hc
  exact vowed_no w0 p 92 (vtZ v W i x) x.P zl hb a (tryZ W i) [(y.h : Int), y.hw] y.c rfl rfl hyc (.inl hP)
theorem vowed_v_no {y : Vw} (hP : x.P = false) (hyc : y.c.length = 3) (ha : a < 5) (hm : bt (gi v 1) a = true) (hbw : 0 < x.b → x.bw = W (x.b - 1)) (hyw : 0 < y.h → y.hw = W (y.h - 1)) (hb : w0.heap[p]? = some (.cells (mix (vtZ v W i x) [x.P]).toArray 92 (0, 0))) :
    Calls Try.prog 31 #[.pointer (some ⟨p, 0, none⟩), .int .i64 a, ia (tryZ W i), ia [(y.h : Int), y.hw], ia y.c] w0 fun e w' => ∃ x' : Vt, e = .returned (.bool x'.P) ∧ Step [p] w0 w' ∧ w'.heap[p]? = some (.cells (mix (vtZ v W i x') [x'.P]).toArray 92 (0, 0)) ∧
      Hid (x'.V = orV x.V a ∧ x'.K = x.K ∧ x'.P = mostB x'.V (gi v 1) ∧ ((0 < y.h ∧ x.b < y.h ∧ x'.b = y.h ∧ x'.bw = y.hw ∧ x'.ch = y.c) ∨ ((y.h = 0 ∨ y.h ≤ x.b) ∧ x'.b = x.b ∧ x'.bw = x.bw ∧ x'.ch = x.ch))) := by
  obtain ⟨zl, z07, z72, z93, z122, z14, z15, zb, zb2, zt⟩ := vtZ_parts W i hv hc
  have hmem : memB (sub (vtZ v W i x) 0 7) a = true := by rw [z07, memB_nat ha]; exact hm
  rw [hP] at hb
  rw [← z72]
  have keep : ∀ (h0 : y.h = 0 ∨ y.h ≤ x.b), Hid (({ x with V := orV x.V a, P := mostB (orV x.V a) (gi v 1) } : Vt).V = orV x.V a ∧ ({ x with V := orV x.V a, P := mostB (orV x.V a) (gi v 1) } : Vt).K = x.K ∧ ({ x with V := orV x.V a, P := mostB (orV x.V a) (gi v 1) } : Vt).P = mostB (orV x.V a) (gi v 1) ∧
      ((0 < y.h ∧ x.b < y.h ∧ x.b = y.h ∧ x.bw = y.hw ∧ x.ch = y.c) ∨ ((y.h = 0 ∨ y.h ≤ x.b) ∧ x.b = x.b ∧ x.bw = x.bw ∧ x.ch = x.ch))) := fun h0 => Lib.hid ⟨rfl, rfl, rfl, .inr ⟨h0, rfl, rfl, rfl⟩⟩
  have e7 : gi (sub (bitZ (vtZ v W i x) 14 a) 0 7) 1 = gi v 1 := by rw [zb, (vtZ_parts W i (x := { x with V := orV x.V a }) hv hc).2.1]
  have e14 : gi (bitZ (vtZ v W i x) 14 a) 14 = orV x.V a := by rw [zb, (vtZ_parts W i (x := { x with V := orV x.V a }) hv hc).2.2.2.2.2.1]
  have e12 : sub (bitZ (vtZ v W i x) 14 a) 12 2 = [(x.b : Int), x.bw] := by rw [zb, (vtZ_parts W i (x := { x with V := orV x.V a }) hv hc).2.2.2.2.1]
  by_cases hy : 0 < y.h
  · by_cases hlt : x.b < y.h
    · have hls : lessB (gi (sub (bitZ (vtZ v W i x) 14 a) 12 2) 0) (gi (sub (bitZ (vtZ v W i x) 14 a) 12 2) 1) (gi [(y.h : Int), y.hw] 0) (gi [(y.h : Int), y.hw] 1) = true := by
        rw [e12]
        show lessB (x.b : Int) x.bw (y.h : Int) y.hw = true
        unfold lessB
        rw [if_neg (by omega)]; simp; omega
      refine (vowed_turn w0 p 92 (vtZ v W i x) zl hb a ha hmem [(y.h : Int), y.hw] y.c rfl hyc (by show (0 : Int) < (y.h : Int); omega) hls).mono ?_
      rintro e w' ⟨rfl, hst, hbk⟩
      have hp2 := vtZ_parts W i (x := { x with V := orV x.V a, b := y.h, bw := y.hw, ch := y.c }) hv hyc
      rw [zt a y.h y.hw y.c hyc, hp2.2.2.2.2.2.1, hp2.2.1] at hbk ⊢
      exact ⟨{ x with V := orV x.V a, b := y.h, bw := y.hw, ch := y.c, P := mostB (orV x.V a) (gi v 1) }, rfl, hst, hbk, Lib.hid ⟨rfl, rfl, rfl, .inl ⟨hy, hlt, rfl, rfl, rfl⟩⟩⟩
    · have hls : lessB (gi (sub (bitZ (vtZ v W i x) 14 a) 12 2) 0) (gi (sub (bitZ (vtZ v W i x) 14 a) 12 2) 1) (gi [(y.h : Int), y.hw] 0) (gi [(y.h : Int), y.hw] 1) = false := by
        rw [e12]
        show lessB (x.b : Int) x.bw (y.h : Int) y.hw = false
        unfold lessB
        by_cases he : (x.b : Int) = y.h
        · have he2 : x.b = y.h := by omega
          rw [if_pos he, hbw (by omega), hyw hy, he2]; simp
        · rw [if_neg he]; simp; omega
      refine (vowed_keep w0 p 92 (vtZ v W i x) zl hb a ha hmem [(y.h : Int), y.hw] y.c rfl hyc (by show (0 : Int) < (y.h : Int); omega) hls).mono ?_
      rintro e w' ⟨rfl, hst, hbk⟩
      rw [e14, e7] at hbk ⊢
      rw [zb] at hbk
      exact ⟨{ x with V := orV x.V a, P := mostB (orV x.V a) (gi v 1) }, rfl, hst, hbk, keep (.inr (by omega))⟩
  · refine (vowed_yes w0 p 92 (vtZ v W i x) zl hb a ha hmem [(y.h : Int), y.hw] y.c rfl hyc (by show (y.h : Int) ≤ 0; omega)).mono ?_
    rintro e w' ⟨rfl, hst, hbk⟩
    rw [e14, e7] at hbk ⊢
    rw [zb] at hbk
    exact ⟨{ x with V := orV x.V a, P := mostB (orV x.V a) (gi v 1) }, rfl, hst, hbk, keep (.inl (by omega))⟩
theorem taken_v (hP : x.P = true) (ha : a < 5) (hm : bt (gi v 1) a = true) (hb : w0.heap[p]? = some (.cells (mix (vtZ v W i x) [x.P]).toArray 92 (0, 0))) :
    Calls Try.prog 32 #[.pointer (some ⟨p, 0, none⟩), .int .i64 a, ia (tryZ W i)] w0 fun e w' => e = .returned (.bool (mostB (orV x.K a) (gi v 1))) ∧ Step [p] w0 w' ∧ w'.heap[p]? = some (.cells (mix (vtZ v W i { x with K := orV x.K a }) [x.P]).toArray 92 (0, 0)) := by
  obtain ⟨zl, z07, z72, z93, z122, z14, z15, zb, zb2, zt⟩ := vtZ_parts W i hv hc
  have hmem : memB (sub (vtZ v W i x) 0 7) a = true := by rw [z07, memB_nat ha]; exact hm
  rw [hP] at hb ⊢
  rw [← z72]
  have e7 : gi (sub (bitZ (vtZ v W i x) 15 a) 0 7) 1 = gi v 1 := by rw [zb2, (vtZ_parts W i (x := { x with K := orV x.K a }) hv hc).2.1]
  have e15 : gi (bitZ (vtZ v W i x) 15 a) 15 = orV x.K a := by rw [zb2, (vtZ_parts W i (x := { x with K := orV x.K a }) hv hc).2.2.2.2.2.2.1]
  have := taken_yes w0 p 92 (vtZ v W i x) zl hb a ha hmem
  rw [e7, e15, zb2] at this
  exact this
end
end Go.Proofs.Ytaeapoidigglnaa
