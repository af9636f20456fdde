/-
  legateelaw02.SumParts returns true at every input: the sum of three parts is that of all together. No condition.
-/
import Derived.Test.YtckoiabainpamaaFit2
namespace Go.Proofs.Ytckoiabainpamaa
open Go.RowKit

theorem crc_nil : crc [] = 0 := by decide +kernel
theorem flat3 (a b c : Part) : flat [a, b, c] = a.bs ++ b.bs ++ c.bs := by simp [flat]
theorem flat1 (a : Part) : flat [a] = a.bs := by simp [flat]

set_option maxHeartbeats 400000 in
theorem sumParts_walk (w : World) (a0 a1 a2 : Option Addr) (c0 c1 c2 : Nat) (b0 b1 b2 : List UInt8) (h0 : ByArg w a0 c0 b0) (h1 : ByArg w a1 c1 b1) (h2 : ByArg w a2 c2 b2) :
    Calls Try.prog 3 #[.slice a0 b0.length c0, .slice a1 b1.length c1, .slice a2 b2.length c2] w fun e w' => e = .returned (.bool true) ∧ Below w.heap.size w w' := by
  have l0 : b0.length ≤ 140737488351232 := Nat.le_trans h0.le h0.reach
  have l1 : b1.length ≤ 140737488351232 := Nat.le_trans h1.le h1.reach
  have l2 : b2.length ≤ 140737488351232 := Nat.le_trans h2.le h2.reach
  by_cases hbig : b0.length + b1.length + b2.length > 1000
  · have hb : (1000 : Int) < (b0.length : Int) + b1.length + b2.length := by omega
    go_enter Try.func3, Try.ntmps3
    go_wp2_with (go_at_call 17; refine (fit2 _).mono ?_; rintro e w1 ⟨rfl, hw1⟩)
    go_ret
    exact ⟨rfl, hw1⟩
  · have hb : (b0.length : Int) + b1.length + b2.length ≤ 1000 := by omega
    go_enter Try.func3, Try.ntmps3
    have hl0 : (([] : List UInt8).length + b0.length) ≤ 140737488355328 := by simp; omega
    have hl1 : (([] ++ b0 : List UInt8).length + b1.length) ≤ 140737488355328 := by simp; omega
    have hl2 : ((([] ++ b0) ++ b1 : List UInt8).length + b2.length) ≤ 140737488355328 := by simp; omega
    have HL : Hid ((([] ++ b0) ++ b1 : List UInt8).length + b2.length ≤ 140737488355328) := hl2
    clear hl2 hl0 hl1
    go_wp2_with (first
      | (go_at_call 17; refine (fit2 _).mono ?_; rintro e w1 ⟨rfl, hw1⟩)
      | (at_builtin; refine wpList_append_bys rfl (.const (.slice none 0 0)) (.tmp 19) 22 rfl Try.underlying22 Try.info5 w.heap.size _ [] rfl (Own.nil _ _) a0 b0 _ c0 rfl rfl h0.nil (h0.bys.below hw1) (by simp; omega) hw1.size ?_; intro v1 w2 ho1 hb1; have hw2 := hw1.trans hb1; clear hb1)
      | (at_builtin; refine wpList_append_bys rfl (.tmp 20) (.tmp 21) 22 rfl Try.underlying22 Try.info5 w.heap.size _ _ rfl ho1 a1 b1 _ c1 rfl rfl h1.nil (h1.bys.below hw2) (by simp; omega) hw2.size ?_; intro v2 w3 ho2 hb2; have hw3 := hw2.trans hb2; clear hb2 ho1)
      | (at_builtin; refine wpList_append_bys rfl (.tmp 22) (.tmp 23) 22 rfl Try.underlying22 Try.info5 w.heap.size _ _ rfl ho2 a2 b2 _ c2 rfl rfl h2.nil (h2.bys.below hw3) (by simp; omega) hw3.size ?_; intro v3 w4 ho3 hb3; have hw4 := hw3.trans hb3; clear hb3 ho2; generalize hall : [] ++ b0 ++ b1 ++ b2 = all at ho3; have HA : Hid ([] ++ b0 ++ b1 ++ b2 = all) := hall; clear hall; obtain ⟨a3, c3, hv3, hb3, hn3⟩ := ho3.arg; subst hv3))
    have hall : all = b0 ++ b1 ++ b2 := by rw [← HA.out]; simp
    have hlen : all.length ≤ 1000 := by rw [hall]; simp; omega
    have hcrc : crc (b0 ++ b1 ++ b2) = crc all := by rw [hall]
    clear hall HA ho3
    refine (of_any _ _ [⟨a0, c0, b0⟩, ⟨a1, c1, b1⟩, ⟨a2, c2, b2⟩] 3 (parts_new _ 22 _ _ _ (by simp) rfl ?_) (by simp [maxLen])).mono ?_
    · intro p hp
      simp only [List.mem_cons, List.not_mem_nil, or_false] at hp
      rcases hp with rfl | rfl | rfl
      · exact ⟨h0.bys.below hw4, by simp only [maxLen]; omega⟩
      · exact ⟨h1.bys.below hw4, by simp only [maxLen]; omega⟩
      · exact ⟨h2.bys.below hw4, by simp only [maxLen]; omega⟩
    · rintro e w5 ⟨rfl, rfl⟩
      rw [flat3, hcrc]
      clear hcrc
      go_wp2_with fail
      refine (of_any _ _ [⟨a3, c3, all⟩] 1 (parts_new _ 22 _ _ _ (by simp) rfl ?_) (by simp [maxLen])).mono ?_
      · intro p hp
        obtain rfl := List.mem_singleton.1 hp
        exact ⟨hb3.below ((Below.refl _ _).alloc (Nat.le_refl _) _), by simp only [maxLen]; omega⟩
      · rintro e w6 ⟨rfl, rfl⟩
        rw [flat1]
        go_wp2_with fail
        refine (of_any _ _ [] 0 (fun h => absurd rfl h) (by simp [maxLen])).mono ?_
        rintro e w6 ⟨rfl, rfl⟩
        rw [show crc (flat []) = 0 from crc_nil]
        go_wp2
        go_ret
        exact ⟨rfl, (hw4.alloc hw4.size _).alloc (by have := hw4.size; simp; omega) _⟩
end Go.Proofs.Ytckoiabainpamaa
