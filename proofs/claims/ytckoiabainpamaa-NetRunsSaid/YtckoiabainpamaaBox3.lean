/-
  The contract of box.New. No condition.
-/
import Derived.Test.YtckoiabainpamaaBox2
import Derived.Test.YtckoiabainpamaaBuild1
import Derived.MapKept
namespace Go.Proofs.Ytckoiabainpamaa
open Go.RowKit Go.Conc
set_option maxRecDepth 100000
/-- an open, empty channel -/
def chn (c cap : Nat) : Res := ⟨[c], fun w => ∃ s r, w.heap[c]? = some (.chan cap #[] false s r false), fun w w' h hs => by
  obtain ⟨s, r, h1⟩ := hs
  exact ⟨s, r, by rw [h c (by simp)]; exact h1⟩⟩
theorem new_join {w0 w : World} {pb c cap : Nat} (h : Inv [] w0 w [blk pb 69 [.chan (some c)], chn c cap]) : Inv [] w0 w [bxr pb c cap []] := by
  have e : owned [bxr pb c cap []] = owned [blk pb 69 [.chan (some c)], chn c cap] := by simp [owned, bxr, blk, chn]
  refine ⟨h.os, h.tape, h.output, h.size, h.old, fun x hx => ?_, by rw [e]; exact h.mine, by rw [e]; exact h.apart⟩
  obtain rfl := List.mem_singleton.1 hx
  exact ⟨h.sat (blk pb 69 [.chan (some c)]) (by simp), h.sat (chn c cap) (by simp), by simp⟩
theorem by22 : (Try.prog.info? 22).map (·.bytes) = some 24 := by kernel_rfl
theorem zero69 : (Try.prog.info? 69).map (·.zero) = some (some (.agg #[.chan none])) := by kernel_rfl
theorem und69 : Try.prog.underlying 69 = some (.struct (Try.prog.fieldsOf 69)) := by kernel_rfl
theorem pl69 : (Try.prog.fieldsOf 69).toList.map (placeOf Try.prog) = [(0, 1)] := by kernel_rfl
theorem kp69 : (Try.prog.fieldsOf 69).toList.all (fun f => (Try.prog.info? f.type).isSome) = true := by kernel_rfl
theorem build69 (c : Nat) (w : World) : (Instr.build 69 #[(0, .chan (some c))]).run Try.prog w = .ok (.agg #[.chan (some c)]) w := by
  obtain ⟨inf, hinf, hz'⟩ := Option.map_eq_some_iff.1 zero69
  have hzv : (zeroValue 69).run Try.prog w = .ok (.agg #[.chan none]) w := by simp [zeroValue, typeInfo, hinf, hz']
  have hr := run_mapM_places (P := Try.prog) (Try.prog.fieldsOf 69).toList (List.all_eq_true.1 kp69) w
  rw [pl69] at hr
  simp only [Instr.build, Sem.run_bind, hzv, Result.andThen_ok, run_underlying und69]
  rw [← Array.toArray_toList (xs := Try.prog.fieldsOf 69), List.mapM_toArray]
  simp only [Sem.run_map, hr]
  simp [Instr.fill, Value.cells]
section
variable {ops : Array Oper} {Q : Exit → Act → World → Prop} {a : Act} {rest : List Oper} {T : List Nat} {w0 w : World} {m : List Res} {dst : Option Tmp} {ty : TypeId} {pos : String} {af : Array Edge}
theorem wpList_build69 {x : Operand} {c : Nat} (hx : a.eval x = .chan (some c)) (k : wpList Try.prog ops Q rest (a.put dst (.agg #[.chan (some c)])) w) : wpList Try.prog ops Q (⟨dst, .build 69 #[(0, x)], ty, pos, af, none⟩ :: rest) a w := by
  refine wpList_yld ?_ k
  unfold Yld execOp
  simp only [List.map_toArray, List.map_cons, List.map_nil, hx, Sem.run_bind, build69, Result.andThen_ok]
  rfl
theorem wpList_makeChan {x : Operand} {n : Nat} (hI : Inv T w0 w m) (hx : a.eval x = .int .i64 n) (hn : n ≤ 64)
    (k : ∀ c w', Inv T w0 w' (chn c n :: m) → wpList Try.prog ops Q rest (a.put dst (.chan (some c))) w') : wpList Try.prog ops Q (⟨dst, .makeChan 67 x, ty, pos, af, none⟩ :: rest) a w :=
  wpList_plain rfl fun K hK => by
    obtain ⟨inf, hinf, hb⟩ := Option.map_eq_some_iff.1 by22
    have hr := run_makeChan (P := Try.prog) (w := w) Try.underlying67 hinf .i64 n (by omega) (by rw [hb]; omega)
    unfold Oper.wp execOp
    simp only [hx, Sem.run_bind, hr, Result.andThen_ok, Sem.run_pure]
    refine hK _ _ (k w.heap.size (w.alloc (.chan n #[] false 0 0 false)) ?_)
    have hsz : (w.alloc (.chan n #[] false 0 0 false)).heap.size = w.heap.size + 1 := by show (w.heap.push _).size = _; simp
    exact hI.new ⟨rfl, rfl, rfl, by omega, fun j hj _ => (MapKept.heap_alloc w _).2 j hj⟩ ⟨0, 0, (MapKept.heap_alloc w _).1⟩ (by intro i hi; simp [chn] at hi; omega) (by simp [chn])
end
def capF (n : Int) : Nat := if n < 1 then 1 else if 64 < n then 64 else n.toNat
theorem new_bx (w0 : World) (n : Int) : Calls Try.prog 22 #[.int .i64 n] w0 fun e w' => ∃ pb c, e = .returned (.pointer (some ⟨pb, 0, none⟩)) ∧ Inv [] w0 w' [bxr pb c (capF n) []] := by
  have hI := Inv.start w0
  by_cases h1 : n < 1
  · have e : capF n = 1 := by unfold capF; rw [if_pos h1]
    rw [e]
    go_enter Try.func22, Try.ntmps22
    go_wp2_with (first | ((with_reducible refine wpList_makeChan (n := 1) hI (by with_unfolding_all rfl) (by omega) ?_); clear hI; intro c w hI) | (with_reducible refine wpList_build69 (by with_unfolding_all rfl) ?_) | ((with_reducible refine wpList_box (cs := [.chan (some c)]) hI (by with_unfolding_all rfl) ?_); clear hI; intro pb w hI))
    go_ret
    first | exact ⟨pb, c, rfl, new_join hI⟩ | exact ⟨pb, rfl, c, new_join hI⟩
  · by_cases h2 : 64 < n
    · have e : capF n = 64 := by unfold capF; rw [if_neg h1, if_pos h2]
      rw [e]
      go_enter Try.func22, Try.ntmps22
      go_wp2_with (first | ((with_reducible refine wpList_makeChan (n := 64) hI (by with_unfolding_all rfl) (by omega) ?_); clear hI; intro c w hI) | (with_reducible refine wpList_build69 (by with_unfolding_all rfl) ?_) | ((with_reducible refine wpList_box (cs := [.chan (some c)]) hI (by with_unfolding_all rfl) ?_); clear hI; intro pb w hI))
      go_ret
      first | exact ⟨pb, c, rfl, new_join hI⟩ | exact ⟨pb, rfl, c, new_join hI⟩
    · obtain ⟨k, rfl⟩ : ∃ k : Nat, n = k := ⟨n.toNat, by omega⟩
      have e : capF (k : Int) = k := by unfold capF; rw [if_neg h1, if_neg h2]; simp
      rw [e]
      go_enter Try.func22, Try.ntmps22
      go_wp2_with (first | ((with_reducible refine wpList_makeChan hI (by with_unfolding_all rfl) (by omega) ?_); clear hI; intro c w hI) | (with_reducible refine wpList_build69 (by with_unfolding_all rfl) ?_) | ((with_reducible refine wpList_box (cs := [.chan (some c)]) hI (by with_unfolding_all rfl) ?_); clear hI; intro pb w hI))
      go_ret
      first | exact ⟨pb, c, rfl, new_join hI⟩ | exact ⟨pb, rfl, c, new_join hI⟩
end Go.Proofs.Ytckoiabainpamaa
