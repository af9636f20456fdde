/-
  Plain law: a byte goes into the sum bit by bit. No program in sight.
-/
import Derived.Test.YtckoiabainpamaaBase
namespace Go.Proofs.Ytckoiabainpamaa
open Go.RowKit

theorem shr_toNat (c : UInt8) (k : Nat) (hk : k < 8) : (c.toUInt32 >>> UInt32.ofNat k).toNat = c.toNat / 2 ^ k := by
  rw [UInt32.toNat_shiftRight, UInt8.toNat_toUInt32]
  rw [show (UInt32.ofNat k).toNat % 32 = k from by simp; omega, Nat.shiftRight_eq_div_pow]

theorem xbit (u : UInt32) (c : UInt8) (k : Nat) (hk : k < 8) :
    bits BinOp.xor IntKind.u64 (bits BinOp.and IntKind.u64 (u.toNat : Int) 1) (IntKind.u64.wrap (bits BinOp.and IntKind.u8 ((c.toNat : Int) / 2 ^ k) 1)) = (((u ^^^ (c.toUInt32 >>> UInt32.ofNat k)) &&& 1).toNat : Int) := by
  have hu := u.toNat_lt
  have hc := c.toNat_lt
  have hd : c.toNat / 2 ^ k ≤ c.toNat := Nat.div_le_self _ _
  have e1 : bits BinOp.and IntKind.u64 (u.toNat : Int) 1 = ((u.toNat &&& 1 : Nat) : Int) := u64_and_nat u.toNat 1 (by omega) (by omega)
  have e2 : bits BinOp.and IntKind.u8 ((c.toNat : Int) / 2 ^ k) 1 = ((c.toNat / 2 ^ k &&& 1 : Nat) : Int) := by
    rw [show ((c.toNat : Int) / 2 ^ k) = ((c.toNat / 2 ^ k : Nat) : Int) from by simp]
    exact u8_and_nat (c.toNat / 2 ^ k) 1 (by omega) (by omega)
  have l1 : u.toNat &&& 1 ≤ 1 := Nat.and_le_right
  have l2 : c.toNat / 2 ^ k &&& 1 ≤ 1 := Nat.and_le_right
  rw [e1, e2, IntKind.wrap_u64, show ((c.toNat / 2 ^ k &&& 1 : Nat) : Int) % 18446744073709551616 = ((c.toNat / 2 ^ k &&& 1 : Nat) : Int) from by omega]
  rw [u64_xor_nat _ _ (by omega) (by omega)]
  congr 1
  rw [UInt32.toNat_and, UInt32.toNat_xor, shr_toNat c k hk]
  rw [show (1 : UInt32).toNat = 1 from rfl, ← Nat.and_xor_distrib_right]

theorem one_toNat {x : UInt32} : x = 1 ↔ (x.toNat : Int) = 1 := by
  constructor
  · rintro rfl; rfl
  · intro h; apply UInt32.toNat_inj.1; have : (1 : UInt32).toNat = 1 := rfl; omega

theorem xbit_true (u : UInt32) (c : UInt8) (k : Nat) (hk : k < 8)
    (h : (bits BinOp.xor IntKind.u64 (bits BinOp.and IntKind.u64 (u.toNat : Int) 1) (IntKind.u64.wrap (bits BinOp.and IntKind.u8 ((c.toNat : Int) / 2 ^ k) 1)) == 1) = true) : (u ^^^ (c.toUInt32 >>> UInt32.ofNat k)) &&& 1 = 1 := by
  rw [xbit u c k hk, beq_iff_eq] at h
  exact one_toNat.2 h
theorem xbit_false (u : UInt32) (c : UInt8) (k : Nat) (hk : k < 8)
    (h : (bits BinOp.xor IntKind.u64 (bits BinOp.and IntKind.u64 (u.toNat : Int) 1) (IntKind.u64.wrap (bits BinOp.and IntKind.u8 ((c.toNat : Int) / 2 ^ k) 1)) == 1) = false) : ¬ (u ^^^ (c.toUInt32 >>> UInt32.ofNat k)) &&& 1 = 1 := by
  rw [xbit u c k hk, beq_eq_false_iff_ne] at h
  exact fun hh => h (one_toNat.1 hh)

theorem shr_succ (c : UInt32) (k : Nat) (hk : k < 8) : (c >>> UInt32.ofNat k) >>> 1 = c >>> UInt32.ofNat (k+1) := by
  apply UInt32.toNat_inj.1
  simp only [UInt32.toNat_shiftRight]
  rw [show (UInt32.ofNat k).toNat % 32 = k from by simp; omega, show (UInt32.ofNat (k+1)).toNat % 32 = k+1 from by simp; omega, show (1 : UInt32).toNat % 32 = 1 from rfl]
  rw [Nat.shiftRight_add]

theorem xor_shr1 (u d : UInt32) : (u ^^^ d) >>> 1 = (u >>> 1) ^^^ (d >>> 1) := by
  apply UInt32.toNat_inj.1
  simp only [UInt32.toNat_shiftRight, UInt32.toNat_xor]
  rw [Nat.shiftRight_xor_distrib]
theorem st1_xor_odd (u d : UInt32) (h : (u ^^^ d) &&& 1 = 1) : st1 (u ^^^ d) = ((u >>> 1) ^^^ (3988292384 : UInt32)) ^^^ (d >>> 1) := by
  rw [st1, if_pos h, xor_shr1]
  rw [UInt32.xor_assoc, UInt32.xor_assoc, UInt32.xor_comm (d >>> 1)]
theorem st1_xor_even (u d : UInt32) (h : ¬ (u ^^^ d) &&& 1 = 1) : st1 (u ^^^ d) = (u >>> 1) ^^^ (d >>> 1) := by
  rw [st1, if_neg h, xor_shr1]

theorem bit_odd (u : UInt32) (c : UInt8) (k : Nat) (hk : k < 8) (t : UInt32) (hs : stn (8 - k) (u ^^^ (c.toUInt32 >>> UInt32.ofNat k)) = t) (h : (u ^^^ (c.toUInt32 >>> UInt32.ofNat k)) &&& 1 = 1) :
    stn (8 - (k+1)) (((u >>> 1) ^^^ (3988292384 : UInt32)) ^^^ (c.toUInt32 >>> UInt32.ofNat (k+1))) = t := by
  rw [← hs, stn_succ k hk, st1_xor_odd _ _ h, shr_succ _ k hk]
theorem bit_even (u : UInt32) (c : UInt8) (k : Nat) (hk : k < 8) (t : UInt32) (hs : stn (8 - k) (u ^^^ (c.toUInt32 >>> UInt32.ofNat k)) = t) (h : ¬ (u ^^^ (c.toUInt32 >>> UInt32.ofNat k)) &&& 1 = 1) :
    stn (8 - (k+1)) ((u >>> 1) ^^^ (c.toUInt32 >>> UInt32.ofNat (k+1))) = t := by
  rw [← hs, stn_succ k hk, st1_xor_even _ _ h, shr_succ _ k hk]
theorem bit_end (u : UInt32) (c : UInt8) (t : UInt32) (hs : stn (8 - 8) (u ^^^ (c.toUInt32 >>> UInt32.ofNat 8)) = t) : u = t := by
  rw [← hs]
  show u = u ^^^ (c.toUInt32 >>> 8)
  have : c.toUInt32 >>> 8 = 0 := by
    apply UInt32.toNat_inj.1
    rw [UInt32.toNat_shiftRight, UInt8.toNat_toUInt32, show (8 : UInt32).toNat % 32 = 8 from rfl, Nat.shiftRight_eq_div_pow]
    have := c.toNat_lt
    show _ = 0
    omega
  rw [this]; simp
theorem odd64 (u : UInt32) : bits BinOp.xor IntKind.u64 ((u.toNat : Int) / 2) 3988292384 = (((u >>> 1) ^^^ (3988292384 : UInt32)).toNat : Int) := by
  have hu := u.toNat_lt
  rw [show ((u.toNat : Int) / 2) = ((u.toNat / 2 : Nat) : Int) from by simp]
  have := u64_xor_nat (u.toNat / 2) 3988292384 (by omega) (by omega)
  rw [show ((3988292384 : Nat) : Int) = 3988292384 from rfl] at this
  rw [this, UInt32.toNat_xor, UInt32.toNat_shiftRight, show (1 : UInt32).toNat % 32 = 1 from rfl, Nat.shiftRight_eq_div_pow]
  rfl
theorem end64 (u : UInt32) : (bits BinOp.xor IntKind.u64 (u.toNat : Int) 4294967295) = ((~~~ u).toNat : Int) := by
  have hu := u.toNat_lt
  have := u64_xor_nat u.toNat 4294967295 (by omega) (by omega)
  rw [show ((4294967295 : Nat) : Int) = 4294967295 from rfl] at this
  rw [this]
  have h := not32 u
  have h2 := bits_xor32 4294967295 u
  rw [show ((4294967295 : UInt32).toNat : Int) = 4294967295 from rfl] at h2
  rw [← h, h2, UInt32.toNat_xor, Nat.xor_comm]
  rfl
theorem end_test (b : List UInt8) : (((crc b).toNat : Int) == bits BinOp.xor IntKind.u64 ((crcB 4294967295 b).toNat : Int) 4294967295 % 4294967296) = true := by
  rw [end64, beq_iff_eq]
  have := (~~~ (crcB 4294967295 b)).toNat_lt
  unfold crc
  omega
theorem ret_bool {a b : Bool} (h : a = b) : Ending.returned (.bool a) = .returned (.bool b) := by rw [h]
end Go.Proofs.Ytckoiabainpamaa
