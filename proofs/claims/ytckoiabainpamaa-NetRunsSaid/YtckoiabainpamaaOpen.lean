/-
  How the arguments that came in are opened: a []byte reads as a list of bytes. Conditions: the form's own reach.
-/
import Derived.Test.YtckoiabainpamaaRows
import Derived.Test.YtckoiabainpamaaBase
import Derived.WalkKit
import Derived.ProofKit
import Derived.OpenShut
import Derived.ShutString
import Derived.ChangeOld
import Derived.Below
import Derived.SizedLaws
namespace Go.Proofs.Ytckoiabainpamaa
open Go.ChangeShapes Go.WideShapes Go.ChangeAt Go.RowKit
open Go.ChangeMaps (open_string shut_string)

theorem own_ : ownKnob Try.prog.godebug = none := by kernel_rfl
theorem laidOut_ : laidOutB Try.prog = true := by kernel_rfl

def u8 (z : Int) : UInt8 := UInt8.ofNat z.toNat
theorem u8_back (z : Int) (h : (Lit.int .u8 z).wf = true) : ((u8 z).toNat : Int) = z := by
  have : 0 ≤ z ∧ z ≤ 255 := by simpa [Lit.wf, IntKind.min, IntKind.max, IntKind.bits, IntKind.signed] using h
  simp [u8]
  omega

theorem open_bytes {H : Type} {enc : TypeId × Value → H} {P : Program} {W : World} {t e : TypeId} {v : Value} {d : DataW H} {p : List MemPlace} {base : Nat}
    (ht : P.underlying t = some (.slice e)) (he : P.underlying e = some (.int .u8)) (hc : P.cellsOf e = 1) (hby : P.bytesOf e = 1)
    (hok : Value.okWide P W .any base t v) (h : DataW.Trod enc P W 0 (fun _ => true) true t v d p)
    (hsz : ∀ elems spare, d = .slice elems spare → (elems.length + spare.length) * P.bytesOf e ≤ reachBytes) :
    ∃ a bs cap, v = .slice a bs.length cap ∧ ByArg W a cap bs := by
  obtain ⟨a, len, cap, rfl⟩ := okWide_slice ht hok
  obtain ⟨fuel, hf⟩ := h
  rcases open_ints ht he hc hf with ⟨hcs, _⟩ | ⟨x, l, c, zs, hcs, _, hl, hm, hz, hx, hcell, hwz⟩
  · simp [Value.cells] at hcs
    obtain ⟨rfl, rfl, rfl⟩ := hcs
    exact ⟨none, [], 0, rfl, fun h => absurd rfl h, fun _ => rfl, Nat.le_refl _, by omega⟩
  · simp [Value.cells] at hcs
    obtain ⟨rfl, rfl, rfl⟩ := hcs
    simp only [if_true] at hz
    have hd := hsz _ _ (congrArg Prod.fst hx)
    rw [hby] at hd
    simp only [lits, List.length_map, List.length_take, List.length_drop, reachBytes] at hd
    have hlen : ((zs.take len).map u8).length = len := by simp; omega
    refine ⟨some x, (zs.take len).map u8, cap, by rw [hlen], ?_, fun h => (nomatch h), by omega, by omega⟩
    intro hne
    have hpos : 0 < len := by
      rcases Nat.eq_zero_or_pos len with h0 | h0
      · subst h0; simp at hne
      · exact h0
    obtain ⟨b, off, spot⟩ := x
    have hc0 := hcell 0 (by omega)
    have hspot : spot = none := by simpa [Addr.add] using World.cell?_spot hc0
    subst hspot
    refine ⟨b, off, rfl, fun i hi => ?_⟩
    rw [hlen] at hi
    have := hcell i (by omega)
    rw [addr_add] at this
    rw [this]
    simp only [List.getElem_map, List.getElem_take]
    rw [u8_back _ (hwz _ (List.getElem_mem _))]
    simp [List.getD, show i < zs.length by omega]
end Go.Proofs.Ytckoiabainpamaa
