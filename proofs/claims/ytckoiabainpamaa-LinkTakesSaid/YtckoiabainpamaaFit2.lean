/-
  The contract of legateelaw02.fit: it returns true and changes nothing that was there. No condition.
-/
import Derived.Test.YtckoiabainpamaaSum
import Derived.Lib.SlBytesConst
namespace Go.Proofs.Ytckoiabainpamaa
open Go.RowKit
theorem Try.info5 : (Try.prog.info? 5).map (fun i => (i.zero, i.size, i.bytes)) = some (some (.int .u8 0), 1, 1) := by kernel_rfl
def digits9 : List UInt8 := [49, 50, 51, 52, 53, 54, 55, 56, 57]
theorem crc9 : crc digits9 = 3421780262 := by decide +kernel
theorem bys_lit (w : World) (bs : List UInt8) (l : List Value) (hl : l = bs.map bv) (m : Nat × Nat) : Bys (w.alloc (.cells l.toArray 5 m)) (some ⟨w.heap.size, 0, none⟩) bs := by
  subst hl
  intro _
  refine ⟨_, _, rfl, fun i hi => ?_⟩
  rw [World.cell?_alloc_mark]
  simp [hi, bv]
theorem parts_new (w : World) (t : TypeId) (ps : List Part) (l : List Value) (n : Nat) (hn : n = w.heap.size) (hl : l = ps.map fun p => Value.slice p.a p.bs.length p.cap) (h : ∀ p ∈ ps, Bys w p.a p.bs ∧ p.bs.length ≤ maxLen) : Parts (w.alloc (.cells l.toArray t)) (some ⟨n, 0, none⟩) ps := by
  subst hl hn
  intro _
  refine ⟨_, _, rfl, fun i hi => ⟨?_, (h _ (List.getElem_mem hi)).1.below ((Below.refl _ _).alloc (Nat.le_refl _) _), (h _ (List.getElem_mem hi)).2⟩⟩
  rw [World.cell?_alloc_mark]
  simp [hi]
theorem fit2 (w : World) : Calls Try.prog 17 #[] w fun e w' => e = .returned (.bool true) ∧ Below w.heap.size w w' := by
  have kc := fun (w : World) (C : Array Value) (n c : Nat) => Lib.run_convert_bytes_const (P := Try.prog) w 22 5 C n c Try.underlying22 Try.underlying5
  go_enter Try.func17, Try.ntmps17
  go_wp2_with fail
  refine (of_any _ _ [⟨some ⟨w.heap.size, 0, none⟩, 9, digits9⟩] 1 (parts_new _ 22 _ _ _ (by simp) rfl ?_) (by simp [maxLen])).mono ?_
  · intro p hp
    obtain rfl := List.mem_singleton.1 hp
    exact ⟨bys_lit w digits9 _ rfl _, by show digits9.length ≤ maxLen; decide⟩
  · rintro e w' ⟨rfl, rfl⟩
    rw [show crc (flat [⟨some ⟨w.heap.size, 0, none⟩, 9, digits9⟩]) = 3421780262 from crc9]
    go_wp2
    go_ret
    exact ⟨rfl, ((Below.refl _ _).alloc (Nat.le_refl _) _).alloc (by simp) _⟩
end Go.Proofs.Ytckoiabainpamaa
