/-
  The laws' walks at the arguments as the frames open them. No condition.
-/
import Derived.Test.YtckoiabainpamaaSumAny
import Derived.Test.YtckoiabainpamaaSumBursts
namespace Go.Proofs.Ytckoiabainpamaa
open Go.RowKit
theorem int_u8 {z : Int} (h : (Lit.int .u8 z).wf = true) : ∃ c : UInt8, z = (c.toNat : Int) := by
  have : 0 ≤ z ∧ z ≤ 255 := by simpa [Lit.wf, IntKind.min, IntKind.max, IntKind.bits, IntKind.signed] using h
  exact ⟨UInt8.ofNat z.toNat, by simp; omega⟩
theorem int_u32 {z : Int} (h : (Lit.int .u32 z).wf = true) : ∃ c : UInt32, z = (c.toNat : Int) := by
  have : 0 ≤ z ∧ z ≤ 4294967295 := by simpa [Lit.wf, IntKind.min, IntKind.max, IntKind.bits, IntKind.signed] using h
  exact ⟨UInt32.ofNat z.toNat, by simp; omega⟩
theorem takes_args (w : World) (a : Option Addr) (c : Nat) (b : List UInt8) (t z : Int) (h : ByArg w a c b) (hz : (Lit.int .u8 z).wf = true) :
    Calls Try.prog 5 #[.slice a b.length c, .int .i64 t, .int .u8 z] w fun e w' => e = .returned (.bool true) ∧ Below w.heap.size w w' := by
  obtain ⟨x, rfl⟩ := int_u8 hz
  exact takes_walk w a c b t x (rd_of_bys h.bys)
theorem bursts_args (w : World) (a : Option Addr) (c : Nat) (b : List UInt8) (t z : Int) (h : ByArg w a c b) (hz : (Lit.int .u32 z).wf = true) :
    Calls Try.prog 6 #[.slice a b.length c, .int .i64 t, .int .u32 z] w fun e w' => e = .returned (.bool true) ∧ Below w.heap.size w w' := by
  obtain ⟨x, rfl⟩ := int_u32 hz
  exact bursts_walk w a c b t x (rd_of_bys h.bys)
theorem any_args (w : World) (a : Option Addr) (c : Nat) (b : List UInt8) (h : ByArg w a c b) :
    Calls Try.prog 7 #[.slice a b.length c] w fun e w' => e = .returned (.bool true) ∧ Below w.heap.size w w' :=
  any_walk w a c b (rd_of_bys h.bys) h.le
end Go.Proofs.Ytckoiabainpamaa
