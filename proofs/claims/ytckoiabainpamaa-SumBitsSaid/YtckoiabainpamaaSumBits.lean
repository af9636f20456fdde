/-
  legateelaw02.SumBits returns true at every input: the sum is that of the remainder, bit by bit. No condition.
-/
import Derived.Test.YtckoiabainpamaaFit2
import Derived.Test.YtckoiabainpamaaBitsLaw
import Derived.Lib.Hide
namespace Go.Proofs.Ytckoiabainpamaa
open Go.RowKit

set_option maxHeartbeats 400000 in
theorem sumBits_walk (w : World) (a0 : Option Addr) (c0 : Nat) (b0 : List UInt8) (h0 : ByArg w a0 c0 b0) :
    Calls Try.prog 4 #[.slice a0 b0.length c0] w fun e w' => e = .returned (.bool true) ∧ Below w.heap.size w w' := by
  have l0 : b0.length ≤ 140737488351232 := Nat.le_trans h0.le h0.reach
  by_cases hbig : b0.length > 500
  · have hb : (500 : Int) < (b0.length : Int) := by omega
    go_enter Try.func4, Try.ntmps4
    go_wp2_with (go_at_call 17; refine (fit2 _).mono ?_; rintro e w1 ⟨rfl, hw1⟩)
    go_ret
    exact ⟨rfl, hw1⟩
  · have hb : (b0.length : Int) ≤ 500 := by omega
    go_enter Try.func4, Try.ntmps4
    go_wp2_with (go_at_call 17; refine (fit2 _).mono ?_; rintro e w1 ⟨rfl, hw1⟩)
    go_loop [3,15] (fun x i => ∃ (j : Nat), j ≤ b0.length ∧ i = .int .i64 j ∧ x = .int .u64 ((crcB 0xFFFFFFFF (b0.take j)).toNat : Int)) (fun _ i => b0.length - (intOf i).toNat)
    case atStart => exact ⟨0, by omega, rfl, rfl⟩
    case round =>
      obtain ⟨j, hj, rfl, rfl⟩ := hrel
      by_cases hlj : j < b0.length
      · have hb1 := h0.bys.below hw1
        obtain ⟨pb, po, rfl, hcb⟩ := hb1 (by intro h; simp [h] at hlj)
        have hcb1 := hcb j hlj
        have Hfj : Hid (crcB 0xFFFFFFFF (b0.take (j+1)) = byteStep (crcB 0xFFFFFFFF (b0.take j)) b0[j]) := crcB_take 0xFFFFFFFF b0 j hlj
        clear hcb hb1 h0
        generalize crcB 0xFFFFFFFF (b0.take j) = s1 at *
        generalize b0[j] = c at *
        go_wp2
        go_loop [3,19] (fun x i => ∃ (k : Nat) (u : UInt32), k ≤ 8 ∧ i = .int .i64 k ∧ x = .int .u64 (u.toNat : Int) ∧ stn (8 - k) (u ^^^ (c.toUInt32 >>> (UInt32.ofNat k))) = byteStep s1 c) (fun _ i => 8 - (intOf i).toNat)
        case atStart => exact ⟨0, s1, by omega, rfl, rfl, by simp [byteStep]⟩
        case round =>
          obtain ⟨k, u, hk, rfl, rfl, hu⟩ := hrel
          by_cases hlk : k < 8
          · have HS := Lib.hid hu
            clear hu
            have hu32 := u.toNat_lt
            have hu8 := c.toNat_lt
            go_wp2
            · have ht : (bits BinOp.xor IntKind.u64 (bits BinOp.and IntKind.u64 (u.toNat : Int) 1) (IntKind.u64.wrap (bits BinOp.and IntKind.u8 ((c.toNat : Int) / 2 ^ k) 1)) == 1) = true := by assumption
              go_round
              case rel => exact ⟨k + 1, _, by omega, by go_num, by rw [odd64], bit_odd u c k hlk _ HS.out (xbit_true u c k hlk ht)⟩
              case measure => simp [intOf]; omega
            · have ht : (bits BinOp.xor IntKind.u64 (bits BinOp.and IntKind.u64 (u.toNat : Int) 1) (IntKind.u64.wrap (bits BinOp.and IntKind.u8 ((c.toNat : Int) / 2 ^ k) 1)) == 1) = false := by assumption
              go_round
              case rel => exact ⟨k + 1, _, by omega, by go_num, by rw [shr1_32], bit_even u c k hlk _ HS.out (xbit_false u c k hlk ht)⟩
              case measure => simp [intOf]; omega
          · obtain rfl : k = 8 := by omega
            have HU : Hid (u = byteStep s1 c) := bit_end u c _ hu
            clear hu
            go_wp2
            go_round
            case rel => exact ⟨j + 1, by omega, by go_num, by rw [HU.out, Hfj.out]⟩
            case measure => simp [intOf]; omega
      · obtain rfl : j = b0.length := by omega
        rw [List.take_length]
        go_wp2_with fail
        refine (of_any _ _ [⟨a0, c0, b0⟩] 1 (parts_new _ 22 _ _ _ (by simp) rfl ?_) (by simp [maxLen])).mono ?_
        · intro p hp
          obtain rfl := List.mem_singleton.1 hp
          exact ⟨h0.bys.below hw1, by simp only [maxLen]; omega⟩
        · rintro e w2 ⟨rfl, rfl⟩
          rw [show crc (flat [⟨a0, c0, b0⟩]) = crc b0 from by simp [flat]]
          go_wp2_with fail
          go_ret
          exact ⟨ret_bool (end_test b0), hw1.alloc hw1.size _⟩
end Go.Proofs.Ytckoiabainpamaa
