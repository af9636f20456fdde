/-
  The contract of sum.Of: for every slice of slices of bytes it returns the sum of their bytes, one behind the other, and changes nothing. Conditions: the cells of the slices read as those bytes.
-/
import Derived.Test.YtckoiabainpamaaChecked
import Derived.Test.YtckoiabainpamaaBase
namespace Go.Proofs.Ytckoiabainpamaa
open Go.RowKit

set_option maxHeartbeats 400000 in
theorem of_any (w : World) (a : Option Addr) (ps : List Part) (cap : Nat) (hps : Parts w a ps) (hl : ps.length ≤ maxLen) : Calls Try.prog 18 #[.slice a ps.length cap] w fun e w' => e = .returned (.int .u32 ((crc (flat ps)).toNat : Int)) ∧ w' = w := by
  unfold maxLen at hl
  go_enter Try.func18, Try.ntmps18
  go_wp2
  go_loop [3,10] (fun rest i => ∃ (k : Nat), k ≤ ps.length ∧ i = .int .i64 k ∧ rest = .int .u32 ((crcP 0xFFFFFFFF (ps.take k)).toNat : Int)) (fun _ i => ps.length - (intOf i).toNat)
  case atStart => exact ⟨0, by omega, rfl, rfl⟩
  case round =>
    obtain ⟨k, hk, rfl, rfl⟩ := hrel
    by_cases hlt : k < ps.length
    · obtain ⟨b, off, rfl, hc⟩ := hps (by intro h; subst h; simp at hlt)
      obtain ⟨hc1, hb, hbl⟩ := hc k hlt
      unfold maxLen at hbl
      have hfin := crcP_take 0xFFFFFFFF ps k hlt
      clear hc hps
      generalize crcP 0xFFFFFFFF (ps.take k) = s0 at *
      generalize ps[k] = p at *
      obtain ⟨pa, pcap, pbs⟩ := p
      simp only [] at hc1 hb hbl hfin
      have Hfin : Hid (crcP 0xFFFFFFFF (ps.take (k+1)) = crcB s0 pbs) := hfin
      clear hfin
      go_wp2
      go_loop [3,16] (fun rest i => ∃ (j : Nat), j ≤ pbs.length ∧ i = .int .i64 j ∧ rest = .int .u32 ((crcB s0 (pbs.take j)).toNat : Int)) (fun _ i => pbs.length - (intOf i).toNat)
      case atStart => exact ⟨0, by omega, rfl, rfl⟩
      case round =>
        obtain ⟨j, hj, rfl, rfl⟩ := hrel
        by_cases hlj : j < pbs.length
        · obtain ⟨pb, po, rfl, hcb⟩ := hb (by intro h; simp [h] at hlj)
          have hcb1 := hcb j hlj
          have hfj := crcB_take s0 pbs j hlj
          clear hcb hb
          generalize crcB s0 (pbs.take j) = s1 at *
          generalize pbs[j] = c at *
          have Hfj : Hid (crcB s0 (pbs.take (j+1)) = byteStep s1 c) := hfj
          clear hfj
          go_wp2
          rw [c32 c, bits_xor32]
          go_loop [3,24] (fun rest i => ∃ (m : Nat) (s : UInt32), m ≤ 8 ∧ i = .int .i64 m ∧ rest = .int .u32 (s.toNat : Int) ∧ stn (8 - m) s = byteStep s1 c) (fun _ i => 8 - (intOf i).toNat)
          case atStart => exact ⟨0, _, by omega, rfl, rfl, rfl⟩
          case round =>
            obtain ⟨m, s, hm, rfl, rfl, hs⟩ := hrel
            by_cases hlm : m < 8
            · have HS : Hid (stn (8 - (m+1)) (st1 s) = byteStep s1 c) := (stn_succ m hlm s).symm.trans hs
              clear hs
              by_cases hbit : s &&& 1 = 1
              · have ht := test_odd s hbit
                have Hx : Hid (bits .xor .u32 ((s.toNat : Int) / 2) 3988292384 = ((st1 s).toNat : Int)) := st1_odd s hbit
                clear hbit
                go_wp2
                go_round
                case rel => exact ⟨m + 1, st1 s, by omega, by go_num, by rw [Hx.out], HS.out⟩
                case measure => simp [intOf]; omega
              · have ht := test_even s hbit
                have Hx : Hid (((s.toNat : Int) / 2) = ((st1 s).toNat : Int)) := st1_even s hbit
                clear hbit
                go_wp2
                go_round
                case rel => exact ⟨m + 1, st1 s, by omega, by go_num, by rw [Hx.out], HS.out⟩
                case measure => simp [intOf]; omega
            · obtain rfl : m = 8 := by omega
              have HS : Hid (s = byteStep s1 c) := hs
              clear hs
              go_wp2
              go_round
              case rel => exact ⟨j + 1, by omega, by go_num, by rw [HS.out, Hfj.out]⟩
              case measure => simp [intOf]; omega
        · obtain rfl : j = pbs.length := by omega
          go_wp2
          go_round
          case rel => exact ⟨k + 1, by omega, by go_num, by rw [List.take_length, Hfin.out]⟩
          case measure => simp [intOf]; omega
    · obtain rfl : k = ps.length := by omega
      go_wp2
      go_ret
      exact ⟨ret_int (crc_end ps), rfl⟩
end Go.Proofs.Ytckoiabainpamaa
