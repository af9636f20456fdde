/-
  The law NetRuns: its argument, and its model: twenty-five rows that are only read. No condition.
-/
import Derived.Test.YtckoiabainpamaaNetFit
import Derived.Test.YtckoiabainpamaaAnyC
import Derived.Test.YtckoiabainpamaaBoxRuns
import Derived.Test.YtckoiabainpamaaOpen2
namespace Go.Proofs.Ytckoiabainpamaa
open Go.RowKit
set_option maxRecDepth 100000
set_option linter.unusedSimpArgs false
set_option linter.unusedVariables false
/-- an argument: calls of a net -/
structure NArg (w : World) (a : Option Addr) (len : Nat) (rf rt : Nat → Int) (rk : Nat → Bool) (ra : Nat → Option Addr) (rc : Nat → Nat) (rb : Nat → List UInt8) : Prop where
  reach : len ≤ 140737488351232
  row : ∀ i, i < len → Rd w (ra i) ((rb i).map bv) ∧ (rb i).length ≤ 140737488351232 ∧ ∃ b off, a = some ⟨b, off, none⟩ ∧ CellsAt w b (off + i * 4) [.int .i64 (rf i), .int .i64 (rt i), .bool (rk i), .slice (ra i) (rb i).length (rc i)]
theorem four_of {α : Type} : ∀ {l : List α}, l.length = 4 → ∃ u v x y, l = [u, v, x, y]
  | [u, v, x, y], _ => ⟨u, v, x, y, rfl⟩
theorem SlArg.narg {w : World} {a : Option Addr} {len c : Nat} {row : Nat → List Value} (h : SlArg w a len c [pInt, pInt, pBool, pSlice [pU8]] row) : ∃ rf rt rk ra rc rb, NArg w a len rf rt rk ra rc rb := by
  have key : ∀ i, ∃ q : Int × Int × Bool × Option Addr × Nat × List UInt8, i < len → Rd w q.2.2.2.1 (q.2.2.2.2.2.map bv) ∧ q.2.2.2.2.2.length ≤ 140737488351232 ∧ ∃ b off, a = some ⟨b, off, none⟩ ∧ CellsAt w b (off + i * 4) [.int .i64 q.1, .int .i64 q.2.1, .bool q.2.2.1, .slice q.2.2.2.1 q.2.2.2.2.2.length q.2.2.2.2.1] := by
    intro i
    by_cases hi : i < len
    · obtain ⟨ha, b, off, h1, h2⟩ := h.row i hi
      obtain ⟨u, v, x, y, hrow⟩ : ∃ u v x y, row i = [u, v, x, y] := four_of ha.length
      rw [hrow] at ha h2
      have hu : pInt w u := ha.1
      have hv : pInt w v := ha.2.1
      have hx : pBool w x := ha.2.2.1
      have hy : pSlice [pU8] w y := ha.2.2.2.1
      obtain ⟨z, hz⟩ := hu
      obtain ⟨z', hz'⟩ := hv
      obtain ⟨k, hk⟩ := hx
      have hz1 : u = .int .i64 z := hz.1
      have hz2 : v = .int .i64 z' := hz'.1
      clear hz hz'
      obtain ⟨a', n, c', row', hv, hs⟩ := hy
      obtain ⟨bs, hl, hr⟩ := hs.bytes
      refine ⟨(z, z', k, a', c', bs), fun _ => ⟨hr, by rw [hl]; exact Nat.le_trans hs.le hs.reach, b, off, h1, ?_⟩⟩
      rw [hv, hz1, hz2, hk] at h2
      rw [hl]
      exact h2
    · exact ⟨(0, 0, false, none, 0, []), fun h => absurd h hi⟩
  exact ⟨fun i => (key i).choose.1, fun i => (key i).choose.2.1, fun i => (key i).choose.2.2.1, fun i => (key i).choose.2.2.2.1, fun i => (key i).choose.2.2.2.2.1, fun i => (key i).choose.2.2.2.2.2, Nat.le_trans h.le h.reach, fun i hi => (key i).choose_spec hi⟩
theorem agg63 : AggT Try.prog 63 4 := ⟨by kernel_rfl, by kernel_rfl⟩
theorem zero63 : (Try.prog.info? 63).map (·.zero) = some (some (.agg #[.int .i64 0, .int .i64 0, .bool false, .slice none 0 0])) := by kernel_rfl
theorem cr4 : CR Try.prog 4 [pBool] := CR.bool Try.underlying4 (by kernel_rfl)
theorem cr63 : CR Try.prog 63 [pInt, pInt, pBool, pSlice [pU8]] := CR.struct (l := [(3, 0), (3, 1), (4, 2), (22, 3)]) (by kernel_rfl) (by kernel_rfl) (by kernel_rfl) (.cons cr3 (.cons cr3 (.cons cr4 (.cons cr22 .nil))))
theorem cr59 : CR Try.prog 59 [pSlice [pInt, pInt, pBool, pSlice [pU8]]] := CR.slice (by_ := 48) Try.underlying59 cr63 (by kernel_rfl) (by decide) (by kernel_rfl) (by decide)
theorem one40 : OneT Try.prog 40 := ⟨by kernel_rfl, by kernel_rfl⟩
theorem one4 : OneT Try.prog 4 := ⟨by kernel_rfl, by kernel_rfl⟩
/-- the model's cells -/
def rowsC (v : Nat → Value) : List Value := (List.range 25).map v
theorem rowsC_len (v : Nat → Value) : (rowsC v).length = 25 := by simp [rowsC]
theorem rowsC_get (v : Nat → Value) {i : Nat} (h : i < 25) : (rowsC v)[i]? = some (v i) := by simp [rowsC, h]
theorem zero61 : (Try.prog.info? 61).map (·.zero) = some (some (.agg (rowsC (fun _ => .slice none 0 0)).toArray)) := by kernel_rfl
theorem rowsC_set (v : Nat → Value) {i j : Nat} (hi : i = j) (h : i < 25) (x : Value) : splice (rowsC v) j [x] = rowsC (upf v i x) := by
  subst hi
  have hs : splice (rowsC v) i [x] = (rowsC v).set i x := by
    rw [List.set_eq_take_append_cons_drop, if_pos (by rw [rowsC_len]; exact h)]
    simp [splice]
  rw [hs]
  refine List.ext_getElem? fun k => ?_
  rw [List.getElem?_set]
  by_cases hk : i = k
  · subst hk
    rw [if_pos rfl, if_pos (by rw [rowsC_len]; exact h), rowsC_get _ h, upf_at]
  · rw [if_neg hk]
    by_cases hk2 : k < 25
    · rw [rowsC_get _ hk2, rowsC_get _ hk2, upf_ne _ _ (fun h => hk h.symm)]
    · rw [List.getElem?_eq_none (by rw [rowsC_len]; omega), List.getElem?_eq_none (by rw [rowsC_len]; omega)]
def rowv (am : Nat → Option Addr) (cm : Nat → Nat) (q : Nat → List QE) (i : Nat) : Value := .slice (am i) (q i).length (cm i)
def qsv (e : QE) : Value := sv e.2.2
def rowr (am : Nat → Option Addr) (cm : Nat → Nat) (q : Nat → List QE) (i : Nat) : Res := rwr (rowv am cm q i) ((q i).map qsv)
theorem rowv_upf (am : Nat → Option Addr) (cm : Nat → Nat) (q : Nat → List QE) (i : Nat) (a : Option Addr) (c : Nat) (v : List QE) : upf (rowv am cm q) i (.slice a v.length c) = rowv (upf am i a) (upf cm i c) (upf q i v) := by
  funext j
  unfold rowv
  by_cases h : j = i
  · subst h; rw [upf_at, upf_at, upf_at, upf_at]
  · rw [upf_ne _ _ h, upf_ne _ _ h, upf_ne _ _ h, upf_ne _ _ h]
theorem rowr_at (am : Nat → Option Addr) (cm : Nat → Nat) (q : Nat → List QE) (i : Nat) (a : Option Addr) (c : Nat) (v : List QE) : rwr (.slice a v.length c) (v.map qsv) = rowr (upf am i a) (upf cm i c) (upf q i v) i := by
  unfold rowr rowv; rw [upf_at, upf_at, upf_at]
theorem rowr_ne (am : Nat → Option Addr) (cm : Nat → Nat) (q : Nat → List QE) (i : Nat) (a : Option Addr) (c : Nat) (v : List QE) : ∀ j ∈ List.range 25, j ≠ i → rowr (upf am i a) (upf cm i c) (upf q i v) j = rowr am cm q j := fun j _ h => by
  unfold rowr rowv; rw [upf_ne _ _ h, upf_ne _ _ h, upf_ne _ _ h]
theorem Inv.rows0 {T : List Nat} {w0 w : World} {m : List Res} (h : Inv T w0 w m) : Inv T w0 w (fam (List.range 25) (rowr (fun _ => none) (fun _ => 0) (fun _ => [])) :: m) := by
  have ho : (fam (List.range 25) (rowr (fun _ => none) (fun _ => 0) (fun _ => []))).own = [] := by
    show owned ((List.range 25).map (rowr (fun _ => none) (fun _ => 0) (fun _ => []))) = []
    simp [owned, rowr, rwr, rowv, Value.ownBlock]
  refine h.turn (fun hs y hy => ?_) (by rw [owned_cons, ho]; exact List.Perm.refl _)
  rcases List.mem_cons.1 hy with rfl | hy
  · intro i _
    exact ⟨none, 0, rfl, Nat.le_refl _, Nat.zero_le _, fun j u hj => by simp at hj⟩
  · exact hs _ hy
/-- a row goes back -/
theorem rows_in {T : List Nat} {w0 w : World} {am : Nat → Option Addr} {cm : Nat → Nat} {q : Nat → List QE} {i j mb : Nat} {a : Option Addr} {c : Nat} {v : List QE} {m : List Res} (hij : i = j) (hi : i < 25)
    (h : Inv T w0 w (rwr (.slice a v.length c) (v.map qsv) :: blk mb 61 (splice (rowsC (rowv am cm q)) j [.slice a v.length c]) :: fam ((List.range 25).erase i) (rowr am cm q) :: m)) :
    Inv T w0 w (blk mb 61 (rowsC (rowv (upf am i a) (upf cm i c) (upf q i v))) :: fam (List.range 25) (rowr (upf am i a) (upf cm i c) (upf q i v)) :: m) := by
  rw [rowsC_set _ hij hi, rowv_upf] at h
  exact h.push List.nodup_range (List.mem_range.2 hi) (rowr_at am cm q i a c v) (rowr_ne am cm q i a c v) (Upd.there Upd.here)
/-- what the model says of the queues -/
def QOk (q : Nat → List QE) : Prop := ∀ i, (q i).length ≤ 8 ∧ ∀ e ∈ q i, e.2.2.length ≤ 100
theorem QOk.zero : QOk (fun _ => []) := fun _ => ⟨Nat.zero_le _, fun e he => by simp at he⟩
theorem QOk.upf {q : Nat → List QE} (h : QOk q) (i : Nat) {v : List QE} (h1 : v.length ≤ 8) (h2 : ∀ e ∈ v, e.2.2.length ≤ 100) : QOk (upf q i v) := fun j => by
  by_cases hj : j = i
  · subst hj; rw [upf_at]; exact ⟨h1, h2⟩
  · rw [upf_ne _ _ hj]; exact h j
/-- the same row goes back -/
theorem rows_back {T : List Nat} {w0 w : World} {am : Nat → Option Addr} {cm : Nat → Nat} {q : Nat → List QE} {i : Nat} {r b : Res} {m : List Res} (hr : rowr am cm q i = r) (hi : i ∈ List.range 25)
    (h : Inv T w0 w (r :: b :: fam ((List.range 25).erase i) (rowr am cm q) :: m)) : Inv T w0 w (b :: fam (List.range 25) (rowr am cm q) :: m) :=
  h.push List.nodup_range hi hr.symm (fun _ _ _ => rfl) (Upd.there Upd.here)
theorem lenTo_200 {q : Nat → List QE} (h : QOk q) : lenTo q 25 ≤ 200 := lenTo_le q (fun i _ => (h i).1) 25 (Nat.le_refl _)
theorem Inv.swap2 {T : List Nat} {w0 w : World} {x y : Res} {m : List Res} (h : Inv T w0 w (x :: y :: m)) : Inv T w0 w (y :: x :: m) :=
  h.turn (fun hs z hz => hs z (by simp only [List.mem_cons] at hz ⊢; rcases hz with h | h | h <;> simp [h])) (by
    simp only [owned_cons, ← List.append_assoc]
    exact List.Perm.append_right _ List.perm_append_comm)
/-- a new row stands in the model's cell -/
theorem rows_new {T : List Nat} {w0 w : World} {am : Nat → Option Addr} {cm : Nat → Nat} {q : Nat → List QE} {i mb : Nat} {a : Option Addr} {c : Nat} {v : List QE} {xs : List Value} {n : Nat} {b7 : Res} {m : List Res} (hi : i < 25) (hn : n = v.length) (hx : xs = v.map qsv)
    (h : Inv T w0 w (b7 :: rwr (.slice a n c) xs :: blk mb 61 (splice (rowsC (rowv am cm q)) i [.slice a n c]) :: fam ((List.range 25).erase i) (rowr am cm q) :: m)) :
    Inv T w0 w (b7 :: blk mb 61 (rowsC (rowv (upf am i a) (upf cm i c) (upf q i v))) :: fam (List.range 25) (rowr (upf am i a) (upf cm i c) (upf q i v)) :: m) := by
  subst hn; subst hx
  have h1 := h.swap2
  have h2 : Inv T w0 w (rwr (.slice a v.length c) (v.map qsv) :: blk mb 61 (splice (rowsC (rowv am cm q)) i [.slice a v.length c]) :: fam ((List.range 25).erase i) (rowr am cm q) :: m ++ [b7]) := by
    refine h1.turn (fun hs z hz => hs z ?_) ?_
    · simp only [List.mem_cons, List.mem_append, List.mem_singleton, List.cons_append, List.not_mem_nil, or_false] at hz ⊢
      rcases hz with h | h | h | h | h <;> simp [h]
    · simp only [owned_cons, owned_append, List.cons_append]
      refine List.Perm.append_left _ ?_
      simp only [owned, List.flatMap_cons, List.flatMap_nil, List.append_nil]
      refine List.Perm.trans (List.Perm.of_eq ?_) List.perm_append_comm
      simp
  have h3 := rows_in rfl hi h2
  refine h3.turn (fun hs z hz => hs z ?_) ?_
  · simp only [List.mem_cons, List.mem_append, List.mem_singleton, List.not_mem_nil, or_false] at hz ⊢
    rcases hz with h | h | h | h <;> simp [h]
  · simp only [owned_cons, owned_append, List.cons_append]
    simp only [owned, List.flatMap_cons, List.flatMap_nil, List.append_nil]
    refine List.Perm.trans List.perm_append_comm (List.Perm.of_eq ?_)
    simp
theorem rows_back2 {T : List Nat} {w0 w : World} {am : Nat → Option Addr} {cm : Nat → Nat} {q : Nat → List QE} {i : Nat} {r b b7 : Res} {m : List Res} (hr : rowr am cm q i = r) (hi : i ∈ List.range 25)
    (h : Inv T w0 w (b7 :: r :: b :: fam ((List.range 25).erase i) (rowr am cm q) :: m)) : Inv T w0 w (b7 :: b :: fam (List.range 25) (rowr am cm q) :: m) :=
  h.swap2.push List.nodup_range hi hr.symm (fun _ _ _ => rfl) (Upd.there (Upd.there Upd.here))
end Go.Proofs.Ytckoiabainpamaa
