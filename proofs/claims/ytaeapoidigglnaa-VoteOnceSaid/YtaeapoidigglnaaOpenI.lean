/-
  Arguments all of whose cells are integers. Conditions: the form's own reach.
-/
import Derived.Test.YtaeapoidigglnaaOpen2
import Derived.Test.YtaeapoidigglnaaIntMem
namespace Go.Proofs.Ytaeapoidigglnaa
open Go.RowKit
section
variable {P : Program}
/-- whatever reads as t is n integers -/
def CRI (P : Program) (t n : Nat) : Prop := CR P t (List.replicate n pInt)
theorem CRI.int {t : TypeId} (ht : P.underlying t = some (.int .i64)) (hc : P.cellsOf t = 1) : CRI P t 1 := CR.int ht hc
theorem flat_rep {α : Type _} (p : α) (n : Nat) : ∀ k, (List.replicate k (List.replicate n p)).flatten = List.replicate (k * n) p
  | 0 => by simp
  | k + 1 => by rw [List.replicate_succ, List.flatten_cons, flat_rep p n k, List.replicate_append_replicate, Nat.succ_mul, Nat.add_comm]
theorem CRI.array {t e k n : Nat} (ht : P.underlying t = some (.array k e)) (he : CRI P e n) (hc : P.cellsOf t = k * n) : CRI P t (k * n) := by
  have := CR.array ht he (by simpa using hc)
  unfold CRI
  rwa [flat_rep] at this
/-- fields: where each begins, its type, how many integers -/
def TilesI (P : Program) : List (TypeId × Nat) → Nat → Nat → Prop
  | [], _, n => n = 0
  | x :: l, o, n => x.2 = o ∧ ∃ q r, CRI P x.1 q ∧ TilesI P l (o + q) r ∧ n = q + r
theorem TilesI.nil {o : Nat} : TilesI P [] o 0 := rfl
theorem TilesI.cons {t o q r : Nat} {l : List (TypeId × Nat)} (h : CRI P t q) (hr : TilesI P l (o + q) r) : TilesI P ((t, o) :: l) o (q + r) := ⟨rfl, q, r, h, hr, rfl⟩
theorem TilesI.fields : ∀ {l : List (TypeId × Nat)} {o n : Nat}, TilesI P l o n → FieldsR P l o (List.replicate n pInt)
  | [], _, _, h => by
    have h : _ = 0 := h
    subst h; rfl
  | (t, o') :: l, o, n, h => by
    obtain ⟨rfl, q, r, h1, h2, rfl⟩ := h
    have h3 := TilesI.fields h2
    rw [← List.replicate_append_replicate]
    exact FieldsR.cons h1 (by simpa using h3)
theorem CRI.struct {t n : Nat} {l : List (TypeId × Nat)} (ht : P.underlying t = some (.struct (P.fieldsOf t))) (hl : (P.fieldsOf t).toList.map fieldAt = l) (hc : P.cellsOf t = n) (h : TilesI P l 0 n) : CRI P t n :=
  CR.struct ht hl (by simpa using hc) h.fields

theorem open_ia {H : Type} {enc : TypeId × Value → H} {W : World} {t n : Nat} {v : Value} {d : DataW H} {p : List MemPlace} {base : Nat}
    (hR : CRI P t n) (ht : P.underlying t = some (.struct (P.fieldsOf t))) (hok : Value.okWide P W .any base t v) (h : DataW.Trod enc P W 0 (fun _ => true) true t v d p) (hw : ∀ n ∈ d.weights P t, n ≤ reachBytes) : ∃ zs : List Int, v = ia zs ∧ zs.length = n ∧ ∀ z ∈ zs, (Lit.int .i64 z).wf = true := by
  obtain ⟨cs, rfl, ha⟩ := open_agg hR ht hok h hw
  obtain ⟨zs, rfl, hl, hz⟩ := ha.ints
  exact ⟨zs, rfl, hl, hz⟩
theorem open_iarr {H : Type} {enc : TypeId × Value → H} {W : World} {t k e n : Nat} {v : Value} {d : DataW H} {p : List MemPlace} {base : Nat}
    (hR : CRI P t n) (ht : P.underlying t = some (.array k e)) (hok : Value.okWide P W .any base t v) (h : DataW.Trod enc P W 0 (fun _ => true) true t v d p) (hw : ∀ n ∈ d.weights P t, n ≤ reachBytes) : ∃ zs : List Int, v = ia zs ∧ zs.length = n ∧ ∀ z ∈ zs, (Lit.int .i64 z).wf = true := by
  obtain ⟨cs, rfl, _⟩ : ∃ cs, v = .agg cs ∧ cs.size = P.cellsOf t := by
    simp only [Value.okWide, ht] at hok
    obtain ⟨cs, h1, h2, _⟩ := hok
    exact ⟨cs, h1, h2⟩
  obtain ⟨fuel, hf⟩ := h
  have ha := hR.all H enc W fuel _ _ hf hw
  obtain ⟨zs, hz, hl, hwf⟩ := All2.ints ha
  refine ⟨zs, ?_, hl, hwf⟩
  unfold ia
  rw [show zs.map (Value.int .i64) = zs.map iv from rfl, ← hz]
  rfl
theorem wf_gi {zs : List Int} (h : ∀ z ∈ zs, (Lit.int .i64 z).wf = true) (i : Nat) : -9223372036854775808 ≤ gi zs i ∧ gi zs i ≤ 9223372036854775807 := by
  unfold gi
  rw [List.getD_eq_getElem?_getD]
  cases hz : zs[i]? with
  | none => simp
  | some z =>
    have := h z (List.mem_of_getElem? hz)
    simpa [Lit.wf, IntKind.min, IntKind.max, IntKind.bits, IntKind.signed] using this
end
end Go.Proofs.Ytaeapoidigglnaa
