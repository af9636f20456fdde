/-
  Contracts of package net: Send; a take and a look at a way. No condition.
-/
import Derived.Test.YtckoiabainpamaaNet
namespace Go.Proofs.Ytckoiabainpamaa
open Go.RowKit Go.Conc
set_option maxRecDepth 100000
set_option linter.unusedSimpArgs false
set_option linter.unusedVariables false
section
variable {T : List Nat} {w0 w w' : World} {m m' : List Res} {p : Nat} {pb c : Nat → Nat} {q : Nat → List QE} {i : Nat} {v : List QE}
theorem nopen (h : Inv T w0 w (ntr 73 p pb c q :: m)) : Inv T w0 w (blk p 73 (cellsTo pb 25) :: fam ways20 (wayr pb c q) :: m) := h.untwo
theorem nclose (h : Inv T w0 w (blk p 73 (cellsTo pb 25) :: fam ways20 (wayr pb c q) :: m)) : Inv T w0 w (ntr 73 p pb c q :: m) := h.totwo
/-- one box in hand -/
theorem nout (h : Inv T w0 w (ntr 73 p pb c q :: m)) (hi : i ∈ ways20) : Inv T w0 w (bxr (pb i) (c i) 8 (q i) :: blk p 73 (cellsTo pb 25) :: fam (ways20.erase i) (wayr pb c q) :: m) :=
  (nopen h).pull hi (Upd.there Upd.here)
theorem nin (h : Inv T w0 w (bxr (pb i) (c i) 8 v :: blk p 73 (cellsTo pb 25) :: fam (ways20.erase i) (wayr pb c q) :: m)) (hi : i ∈ ways20) : Inv T w0 w (ntr 73 p pb c (upf q i v) :: m) :=
  nclose (h.push ways_nodup hi (wayr_at pb c q i v) (wayr_ne pb c q i v) (Upd.there Upd.here))
end
theorem cellTo_way (pb : Nat → Nat) {i : Nat} (hi : i ∈ ways20) : cellTo pb 25 i = .pointer (some ⟨pb i, 0, none⟩) := by
  obtain ⟨h1, h2⟩ := ways_of hi
  unfold cellTo
  rw [if_neg (by omega)]
theorem send_no (w0 : World) (v x : Value) (f t : Int) (hno : ¬ (0 ≤ f ∧ f < 5 ∧ 0 ≤ t ∧ t < 5)) : Calls Try.prog 30 #[v, .int .i64 f, .int .i64 t, x] w0 fun e w' => e = .returned (.bool false) ∧ w' = w0 := by
  go_enter Try.func30, Try.ntmps30
  go_wp2_with (first | ((with_reducible refine wpList_on  (by with_unfolding_all rfl) ?_)) | (go_at_call 32; with_reducible refine (way_no _ _ _ _ hno).mono ?_; rintro e w1 ⟨rfl, hw⟩; rw [hw]; clear hw))
  go_ret
  exact ⟨rfl, rfl⟩
theorem send_same (w0 : World) (p : Nat) (pb c : Nat → Nat) (q : Nat → List QE) (x : Value) (f : Nat) (hf0 : f < 5) (h : Inv (ntr 73 p pb c q).own w0 w0 [ntr 73 p pb c q]) :
    Calls Try.prog 30 #[.pointer (some ⟨p, 0, none⟩), .int .i64 f, .int .i64 f, x] w0 fun e w' => e = .returned (.bool false) ∧ w' = w0 := by
  have hI := nopen h
  clear h
  obtain ⟨t, hft⟩ : ∃ t, t = f := ⟨_, rfl⟩
  have ht0 : t < 5 := by omega
  have hcv : cellTo pb 25 (f * 5 + t) = .pointer none := by unfold cellTo; rw [if_pos (.inl (by omega))]
  conv => enter [3]; rw [show (#[.pointer (some ⟨p, 0, none⟩), .int .i64 f, .int .i64 f, x] : Array Value) = #[.pointer (some ⟨p, 0, none⟩), .int .i64 f, .int .i64 t, x] by rw [hft]]
  clear hft
  go_enter Try.func30, Try.ntmps30
  go_wp2_with (first | ((with_reducible refine wpList_on  (by with_unfolding_all rfl) ?_)) | (go_at_call 32; with_reducible refine (way_at _ p pb f t hf0 ht0 hI).mono ?_; rintro e w1 ⟨rfl, hw⟩; rw [hw]; clear hw; rw [hcv]))
  go_ret
  exact ⟨rfl, rfl⟩
theorem send_way (w0 : World) (p : Nat) (pb c : Nat → Nat) (q : Nat → List QE) (f t i : Nat) (hf0 : f < 5) (ht0 : t < 5) (hi : i = f * 5 + t) (hne : f ≠ t) (h : Inv (ntr 73 p pb c q).own w0 w0 [ntr 73 p pb c q])
    (a : Option Addr) (cp : Nat) (bs : List UInt8) (hr : Rd w0 a (bs.map bv)) (hl : bs.length ≤ 100000) (hroom : (q i).length < 8) :
    Calls Try.prog 30 #[.pointer (some ⟨p, 0, none⟩), .int .i64 f, .int .i64 t, .slice a bs.length cp] w0 fun e w' => e = .returned (.bool true) ∧ ∃ a1 c1, Inv (ntr 73 p pb c q).own w0 w' [ntr 73 p pb c (upf q i (q i ++ [(a1, c1, bs)]))] := by
  have hiw : i ∈ ways20 := ways_mem (by omega) (by omega)
  have hcv : cellTo pb 25 (f * 5 + t) = .pointer (some ⟨pb i, 0, none⟩) := by rw [← hi]; exact cellTo_way pb hiw
  clear hi
  have hI := nopen h
  go_enter Try.func30, Try.ntmps30
  go_upto_region 2 with (first | ((with_reducible refine wpList_on  (by with_unfolding_all rfl) ?_)) | (go_at_call 32; with_reducible refine (way_at _ p pb f t hf0 ht0 hI).mono ?_; rintro e w1 ⟨rfl, hw⟩; rw [hw]; clear hw; rw [hcv]))
  replace hI := nout h hiw
  clear h hcv
  go_wp2_with (first | ((with_reducible refine wpList_on  (by with_unfolding_all rfl) ?_)) | (go_at_call 23; with_reducible refine (put_box _ (pb i) (c i) 8 (q i) (hI.sat _ mm0) (hI.nd mm0) hroom _ _ bs hr hl).mono ?_; rintro e w1 ⟨rfl, a1, c1, hJ⟩; replace hI := hI.on hJ Upd.here; clear hJ))
  go_ret
  exact ⟨rfl, a1, c1, nin hI hiw⟩
theorem send_full (w0 : World) (p : Nat) (pb c : Nat → Nat) (q : Nat → List QE) (f t i : Nat) (hf0 : f < 5) (ht0 : t < 5) (hi : i = f * 5 + t) (hne : f ≠ t) (h : Inv (ntr 73 p pb c q).own w0 w0 [ntr 73 p pb c q])
    (a : Option Addr) (cp : Nat) (bs : List UInt8) (hr : Rd w0 a (bs.map bv)) (hl : bs.length ≤ 100000) (hroom : 8 ≤ (q i).length) :
    Calls Try.prog 30 #[.pointer (some ⟨p, 0, none⟩), .int .i64 f, .int .i64 t, .slice a bs.length cp] w0 fun e w' => e = .returned (.bool false) ∧ Below w0.heap.size w0 w' := by
  have hiw : i ∈ ways20 := ways_mem (by omega) (by omega)
  have hcv : cellTo pb 25 (f * 5 + t) = .pointer (some ⟨pb i, 0, none⟩) := by rw [← hi]; exact cellTo_way pb hiw
  clear hi
  have hI := nopen h
  go_enter Try.func30, Try.ntmps30
  go_upto_region 2 with (first | ((with_reducible refine wpList_on  (by with_unfolding_all rfl) ?_)) | (go_at_call 32; with_reducible refine (way_at _ p pb f t hf0 ht0 hI).mono ?_; rintro e w1 ⟨rfl, hw⟩; rw [hw]; clear hw; rw [hcv]))
  replace hI := nout h hiw
  clear h hcv
  go_wp2_with (first | ((with_reducible refine wpList_on  (by with_unfolding_all rfl) ?_)) | (go_at_call 23; with_reducible refine (put_bxn _ (pb i) (c i) 8 (q i) (hI.sat _ mm0) hroom _ _ bs hr hl).mono ?_; rintro e w1 ⟨rfl, hB⟩))
  go_ret
  exact ⟨rfl, hB⟩
/-- the first that wait on a way are taken -/
theorem ntake (w0 : World) (p : Nat) (pb c : Nat → Nat) (q : Nat → List QE) {i : Nat} (hiw : i ∈ ways20) (h : Inv (ntr 73 p pb c q).own w0 w0 [ntr 73 p pb c q]) (a0 : Option Addr) (c0 : Nat) (b0 : List UInt8) (qt : List QE) (hq : q i = (a0, c0, b0) :: qt) :
    Calls Try.prog 25 #[.pointer (some ⟨pb i, 0, none⟩)] w0 fun e w' => e = .returned (.tuple #[.slice a0 b0.length c0, .bool true]) ∧ Inv (ntr 73 p pb c q).own w0 w' [osl 5 1 (.slice a0 b0.length c0) b0.length (b0.map bv), ntr 73 p pb c (upf q i qt)] := by
  have hI := nout h hiw
  rw [hq] at hI
  refine (take_bx w0 (pb i) (c i) 8 a0 c0 b0 qt (hI.sat _ mm0) (hI.nd mm0)).mono ?_
  rintro e w1 ⟨rfl, hJ⟩
  refine ⟨rfl, ?_⟩
  have h2 := hI.on2 hJ Upd.here
  have h3 := h2.turn (m' := bxr (pb i) (c i) 8 qt :: blk p 73 (cellsTo pb 25) :: fam (ways20.erase i) (wayr pb c q) :: [osl 5 1 (.slice a0 b0.length c0) b0.length (b0.map bv)]) (fun hs y hy => hs y (by simp only [List.mem_cons] at hy ⊢; rcases hy with h | h | h | h | h <;> simp [h])) (by
    simp only [owned_cons]
    refine List.Perm.trans ?_ List.perm_append_comm
    simp [owned])
  have h4 := nin h3 hiw
  exact h4.turn (fun hs y hy => hs y (by simp only [List.mem_cons] at hy ⊢; rcases hy with h | h | h <;> simp [h])) (by
    simp only [owned_cons]
    refine List.Perm.trans List.perm_append_comm ?_
    simp [owned])
theorem ntake0 (w0 : World) (p : Nat) (pb c : Nat → Nat) (q : Nat → List QE) {i : Nat} (hiw : i ∈ ways20) (h : (ntr 73 p pb c q).sat w0) (hq : q i = []) :
    Calls Try.prog 25 #[.pointer (some ⟨pb i, 0, none⟩)] w0 fun e w' => e = .returned (.tuple #[.slice none 0 0, .bool false]) ∧ w' = w0 := by
  have hs : (bxr (pb i) (c i) 8 (q i)).sat w0 := h.2 i hiw
  rw [hq] at hs
  exact take_bx0 w0 (pb i) (c i) 8 hs
theorem nlen (w0 : World) (p : Nat) (pb c : Nat → Nat) (q : Nat → List QE) {i : Nat} (hiw : i ∈ ways20) (h : (ntr 73 p pb c q).sat w0) :
    Calls Try.prog 27 #[.pointer (some ⟨pb i, 0, none⟩)] w0 fun e w' => e = .returned (.int .i64 (q i).length) ∧ w' = w0 :=
  len_bx w0 (pb i) (c i) 8 (q i) (h.2 i hiw)
end Go.Proofs.Ytckoiabainpamaa
