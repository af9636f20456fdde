/-
  The low bits of numbers. Conditions: the place of the bit is below 5.
-/
import Derived.WalkKit
import Derived.Laws.BitsLemmas
namespace Go.Proofs.Ytaeapoidigglnaa
open Go.RowKit
theorem i64_and1 (n : Int) : bits .and .i64 n 1 = n % 2 := by
  have h1 : (BitVec.ofInt 64 n &&& BitVec.ofInt 64 1).toNat = (n % 2).toNat := by
    rw [BitVec.toNat_and]
    have e1 : (BitVec.ofInt 64 1).toNat = 1 := by decide
    rw [e1, Nat.and_one_is_mod, BitVec.toNat_ofInt]
    omega
  show IntKind.i64.wrap (((BitVec.ofInt 64 n &&& BitVec.ofInt 64 1).toNat : Nat) : Int) = _
  rw [h1]
  have : (0 : Int) ≤ n % 2 ∧ n % 2 < 2 := by omega
  rw [Int.toNat_of_nonneg this.1]
  simp [IntKind.wrap, IntKind.bits, IntKind.signed]
  omega
def bt (x : Int) (i : Nat) : Bool := x / 2 ^ i % 2 == 1
theorem bv_bit (x : Int) (i : Nat) (hi : i < 5) : (BitVec.ofInt 64 x).getLsbD i = bt x i := by
  rw [BitVec.getLsbD, Nat.testBit_eq_decide_div_mod_eq, BitVec.toNat_ofInt]
  unfold bt
  have : i = 0 ∨ i = 1 ∨ i = 2 ∨ i = 3 ∨ i = 4 := by omega
  rw [Bool.eq_iff_iff]
  rcases this with rfl | rfl | rfl | rfl | rfl <;> simp <;> omega
theorem bt_and (x y : Int) (i : Nat) (hi : i < 5) : bt (bits .and .i64 x y) i = (bt x i && bt y i) := by
  rw [← bv_bit x i hi, ← bv_bit y i hi, ← BitVec.getLsbD_and, ← bv_bit _ i hi]
  have h : BitVec.ofInt 64 (bits .and .i64 x y) = (BitVec.ofInt 64 x &&& BitVec.ofInt 64 y) := by
    apply BitVec.eq_of_toNat_eq
    show (BitVec.ofInt 64 (IntKind.i64.wrap (((BitVec.ofInt 64 x &&& BitVec.ofInt 64 y).toNat : Nat) : Int))).toNat = _
    generalize BitVec.ofInt 64 x &&& BitVec.ofInt 64 y = r
    have := r.isLt
    rw [BitVec.toNat_ofInt]
    simp [IntKind.wrap, IntKind.bits, IntKind.signed]
    omega
  rw [h]
end Go.Proofs.Ytaeapoidigglnaa
