/-
  The laws SumTakes, SumBursts, SumAny: their walks. No condition.
-/
import Derived.Test.YtckoiabainpamaaSumPut
import Derived.Test.YtckoiabainpamaaFit2
import Derived.Test.YtckoiabainpamaaBits
import Derived.Lib.Hide
import Derived.Deep.DeepCutAuto
import Derived.Deep.LoopGhost
namespace Go.Proofs.Ytckoiabainpamaa
open Go.RowKit

theorem size5 : (Try.prog.info? 5).map (·.size) = some 1 := by kernel_rfl
theorem take_some {w0 : World} (p t : List UInt8) (a : Option Addr) (n c : Nat) (hn : p.length = n) (ht : takeF p = some t) (hr : Rd w0 a (p.map bv)) (hc : n ≤ c) (hl : n ≤ 100000) :
    Calls Try.prog 20 #[.slice a n c] w0 fun e w' => ∃ a' c', e = .returned (.tuple #[.slice a' t.length c', .bool true]) ∧ Inv [] w0 w' [osl 5 1 (.slice a' t.length c') t.length (t.map bv)] := by
  subst hn
  refine (take_any w0 a c p hr hc hl).mono ?_
  rintro e w' (⟨t', a', c', h, rfl, hI⟩ | ⟨h, _⟩)
  · rw [ht] at h; cases h; exact ⟨a', c', rfl, hI⟩
  · rw [ht] at h; cases h
theorem take_none {w0 : World} (p : List UInt8) (a : Option Addr) (n c : Nat) (hn : p.length = n) (ht : takeF p = none) (hr : Rd w0 a (p.map bv)) (hc : n ≤ c) (hl : n ≤ 100000) :
    Calls Try.prog 20 #[.slice a n c] w0 fun e w' => e = .returned (.tuple #[.slice none 0 0, .bool false]) ∧ Below w0.heap.size w0 w' := by
  subst hn
  refine (take_any w0 a c p hr hc hl).mono ?_
  rintro e w' (⟨t', a', c', h, rfl, hI⟩ | ⟨h, he, hb⟩)
  · rw [ht] at h; cases h
  · exact ⟨he, hb⟩

theorem osl_cap {T : List Nat} {w0 w : World} {m : List Res} {e size n n' c : Nat} {a' : Option Addr} {xs : List Value} (h : Inv T w0 w m) (hm : osl e size (.slice a' n' c) n xs ∈ m) : n ≤ c := by
  have hs : w.ownsRow 0 e size (.slice a' n' c) n xs := h.sat _ hm
  rcases hs.2 with ⟨hv, rfl⟩ | ⟨g, cap, cur, hv, _, _, hc, _⟩
  · exact Nat.zero_le _
  · cases hv; exact hc

theorem splice_bv (p : List UInt8) (k : Nat) (y x : UInt8) (h : k < p.length) : splice (p.map bv) k [.int .u8 (bits BinOp.xor IntKind.u8 (y.toNat : Int) (x.toNat : Int))] = (p.set k (y ^^^ x)).map bv := by
  have e : bits BinOp.xor IntKind.u8 (y.toNat : Int) (x.toNat : Int) = ((y ^^^ x).toNat : Int) := by
    rw [u8_xor_nat y.toNat x.toNat (by have := y.toNat_lt; omega) (by have := x.toNat_lt; omega), UInt8.toNat_xor]
  rw [e, List.map_set]
  show splice (p.map bv) k [bv (y ^^^ x)] = _
  rw [List.set_eq_take_append_cons_drop, if_pos (by simpa using h)]
  simp [splice]
theorem xor_ne8 {y x : UInt8} (hx : x ≠ 0) : y ≠ y ^^^ x := by
  intro h
  apply hx
  have := congrArg (y ^^^ ·) h
  simpa [← UInt8.xor_assoc] using this.symm
theorem take_turn (bs : List UInt8) (k : Nat) (y x : UInt8) (hy : (putF bs)[k]? = some y) (hx : x ≠ 0) : takeF ((putF bs).set k (y ^^^ x)) = none := by
  obtain ⟨hk, rfl⟩ := List.getElem?_eq_some_iff.1 hy
  rw [List.set_eq_take_append_cons_drop, if_pos hk]
  have e : (putF bs).take k ++ (((putF bs)[k] ^^^ x) :: (putF bs).drop (k + 1)) = (putF bs).take k ++ [(putF bs)[k] ^^^ x] ++ (putF bs).drop (k + 1) := by simp
  rw [e]
  refine take_burst (b := bs) (m := [(putF bs)[k]]) ?_ rfl (by simp) (by simpa using xor_ne8 hx)
  rw [List.append_assoc, List.singleton_append, ← List.drop_eq_getElem_cons hk, List.take_append_drop]

set_option maxRecDepth 100000 in
set_option maxHeartbeats 800000 in
theorem takes_walk (w0 : World) (a : Option Addr) (c : Nat) (bs : List UInt8) (t : Int) (x : UInt8) (hr : Rd w0 a (bs.map bv)) :
    Calls Try.prog 5 #[.slice a bs.length c, .int .i64 t, .int .u8 (x.toNat : Int)] w0 fun e w' => e = .returned (.bool true) ∧ Below w0.heap.size w0 w' := by
  have hI := Inv.start w0
  by_cases hbig : bs.length > 1000
  · have hb : (1000 : Int) < (bs.length : Int) := by omega
    go_enter Try.func5, Try.ntmps5
    go_wp2_with (first | (go_at_call 17; refine (fit2 _).mono ?_; rintro e w1 ⟨rfl, hw1⟩; replace hI := hI.call hw1; clear hw1))
    go_ret
    exact ⟨rfl, hI.below⟩
  · have hb : (bs.length : Int) ≤ 1000 := by omega
    have hl : bs.length ≤ 100000 := by omega
    have hlp : bs.length + 4 ≤ 100000 := by omega
    by_cases hx : x = 0
    · have hx0 : (((x.toNat : Int)) == 0) = true := by rw [hx]; rfl
      clear hx
      go_enter Try.func5, Try.ntmps5
      go_wp2_with (first | ((with_reducible refine wpList_on  (by with_unfolding_all rfl) ?_)) | (go_at_call 17; refine (fit2 _).mono ?_; rintro e w1 ⟨rfl, hw1⟩; replace hI := hI.call hw1; clear hw1) | (go_at_call 19; refine (put_any _ a c bs (hI.rd0 hr) hl).mono ?_; rintro e w1 ⟨g, cp, rfl, hJ⟩; replace hI := hI.seq hJ; simp only [List.cons_append, List.nil_append] at hI; clear hJ; have hcp := osl_cap hI (by (first | with_reducible exact mm0 | with_reducible exact mm1 | with_reducible exact mm2 | with_reducible exact mm3 | with_reducible exact mm4 | with_reducible exact mm5 | with_reducible exact mm6 | with_reducible exact mm7 | with_reducible exact mm8 | with_reducible exact mm9))) | (go_at_call 20; refine (take_some (putF bs) bs _ _ _ (putF_len bs) (take_put bs) (hI.rd (by (first | with_reducible exact mm0 | with_reducible exact mm1 | with_reducible exact mm2 | with_reducible exact mm3 | with_reducible exact mm4 | with_reducible exact mm5 | with_reducible exact mm6 | with_reducible exact mm7 | with_reducible exact mm8 | with_reducible exact mm9))) hcp hlp).mono ?_; rintro e w2 ⟨a2, c2, rfl, hJ⟩; replace hI := hI.seq hJ; simp only [List.cons_append, List.nil_append] at hI; clear hJ) | (with_reducible refine wpList_tostr Try.underlying22 Try.underlying5 Try.underlying9 (by with_unfolding_all rfl) (hI.rd (by (first | with_reducible exact mm0 | with_reducible exact mm1 | with_reducible exact mm2 | with_reducible exact mm3 | with_reducible exact mm4 | with_reducible exact mm5 | with_reducible exact mm6 | with_reducible exact mm7 | with_reducible exact mm8 | with_reducible exact mm9))) rfl ?_) | (with_reducible refine wpList_tostr Try.underlying22 Try.underlying5 Try.underlying9 (by with_unfolding_all rfl) (hI.rd0 hr) rfl ?_))
      go_ret
      exact ⟨rfl, hI.below⟩
    · have hx0 : (((x.toNat : Int)) == 0) = false := by
        have h1 : x.toNat ≠ 0 := fun h => hx (UInt8.toNat_inj.1 h)
        simp; omega
      have hat := and_range t 65535 (by decide)
      simp at hat
      go_enter Try.func5, Try.ntmps5
      go_upto_region 11 with (first | ((with_reducible refine wpList_on  (by with_unfolding_all rfl) ?_)) | (go_at_call 17; refine (fit2 _).mono ?_; rintro e w1 ⟨rfl, hw1⟩; replace hI := hI.call hw1; clear hw1) | (go_at_call 19; refine (put_any _ a c bs (hI.rd0 hr) hl).mono ?_; rintro e w1 ⟨g, cp, rfl, hJ⟩; replace hI := hI.seq hJ; simp only [List.cons_append, List.nil_append] at hI; clear hJ; have hcp := osl_cap hI (by (first | with_reducible exact mm0 | with_reducible exact mm1 | with_reducible exact mm2 | with_reducible exact mm3 | with_reducible exact mm4 | with_reducible exact mm5 | with_reducible exact mm6 | with_reducible exact mm7 | with_reducible exact mm8 | with_reducible exact mm9))) | (go_at_call 20; refine (take_some (putF bs) bs _ _ _ (putF_len bs) (take_put bs) (hI.rd (by (first | with_reducible exact mm0 | with_reducible exact mm1 | with_reducible exact mm2 | with_reducible exact mm3 | with_reducible exact mm4 | with_reducible exact mm5 | with_reducible exact mm6 | with_reducible exact mm7 | with_reducible exact mm8 | with_reducible exact mm9))) hcp hlp).mono ?_; rintro e w2 ⟨a2, c2, rfl, hJ⟩; replace hI := hI.seq hJ; simp only [List.cons_append, List.nil_append] at hI; clear hJ) | (with_reducible refine wpList_tostr Try.underlying22 Try.underlying5 Try.underlying9 (by with_unfolding_all rfl) (hI.rd (by (first | with_reducible exact mm0 | with_reducible exact mm1 | with_reducible exact mm2 | with_reducible exact mm3 | with_reducible exact mm4 | with_reducible exact mm5 | with_reducible exact mm6 | with_reducible exact mm7 | with_reducible exact mm8 | with_reducible exact mm9))) rfl ?_) | (with_reducible refine wpList_tostr Try.underlying22 Try.underlying5 Try.underlying9 (by with_unfolding_all rfl) (hI.rd0 hr) rfl ?_))
      (try simp only [Act.put, List.setIfInBounds_toArray, List.set_cons_succ, List.set_cons_zero])
      obtain ⟨k, hk, hke⟩ : ∃ k : Nat, k < bs.length + 4 ∧ bits BinOp.and IntKind.i64 t 65535 % ((bs.length : Int) + 4) = (k : Int) := by
        refine ⟨(bits BinOp.and IntKind.i64 t 65535 % ((bs.length : Int) + 4)).toNat, ?_, ?_⟩
        · have h1 := Int.emod_lt_of_pos (bits BinOp.and IntKind.i64 t 65535) (show (0 : Int) < (bs.length : Int) + 4 by omega)
          have h2 := Int.emod_nonneg (bits BinOp.and IntKind.i64 t 65535) (show ((bs.length : Int) + 4) ≠ 0 by omega)
          omega
        · rw [Int.toNat_of_nonneg (Int.emod_nonneg _ (by omega))]
      have hkp : k < (putF bs).length := by rw [putF_len]; exact hk
      obtain ⟨y, hy⟩ : ∃ y, y = (putF bs)[k] := ⟨_, rfl⟩
      have hyk : (putF bs)[k]? = some y := by rw [hy]; simp [hkp]
      have kc : w2.cell? ⟨g, k, none⟩ = some (.int .u8 (y.toNat : Int)) := by
        obtain ⟨b', off', hab, hc⟩ := (hI.rd (a' := some ⟨g, 0, none⟩) (by (first | with_reducible exact mm0 | with_reducible exact mm1 | with_reducible exact mm2 | with_reducible exact mm3 | with_reducible exact mm4 | with_reducible exact mm5 | with_reducible exact mm6 | with_reducible exact mm7 | with_reducible exact mm8 | with_reducible exact mm9))) k (bv y) (by rw [List.getElem?_map, hyk]; rfl)
        cases hab
        simpa [bv] using hc
      have hset := Lib.hid (splice_bv (putF bs) k y x hkp)
      have htn := Lib.hid (take_turn bs k y x hyk hx)
      have hlen : ((putF bs).set k (y ^^^ x)).length = bs.length + 4 := by rw [List.length_set, putF_len]
      clear hy hyk hx hkp
      generalize (putF bs).set k (y ^^^ x) = p2 at *
      go_wp2_with (first | (with_reducible refine wpList_store_osl1 hI (by with_unfolding_all rfl) (by with_unfolding_all rfl) (by (first | with_reducible exact uu0 | with_reducible exact uu1 | with_reducible exact uu2 | with_reducible exact uu3 | with_reducible exact uu4 | with_reducible exact uu5 | with_reducible exact uu6 | with_reducible exact uu7 | with_reducible exact uu8 | with_reducible exact uu9)) size5 (by simp only [List.length_map, putF_len]; omega) ?_; clear hI; intro w hI; rw [hset.out] at hI))
      refine (take_none p2 _ _ _ hlen htn.out (hI.rd (by (first | with_reducible exact mm0 | with_reducible exact mm1 | with_reducible exact mm2 | with_reducible exact mm3 | with_reducible exact mm4 | with_reducible exact mm5 | with_reducible exact mm6 | with_reducible exact mm7 | with_reducible exact mm8 | with_reducible exact mm9))) hcp hlp).mono ?_; rintro e w3 ⟨rfl, hw3⟩; replace hI := hI.call hw3; clear hw3
      go_wp2
      go_ret
      exact ⟨rfl, hI.below⟩
end Go.Proofs.Ytckoiabainpamaa
