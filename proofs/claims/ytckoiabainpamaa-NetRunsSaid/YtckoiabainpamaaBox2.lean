/-
  Contracts of package box: Turn, Len, New. No condition.
-/
import Derived.Test.YtckoiabainpamaaBoxRes
import Derived.Conc.LoneSelectN
namespace Go.Proofs.Ytckoiabainpamaa
open Go.RowKit Go.Conc
set_option maxRecDepth 100000
theorem Inv.nd {T : List Nat} {w0 w : World} {m : List Res} {r : Res} (h : Inv T w0 w m) (hm : r ∈ m) : r.own.Nodup := by
  obtain ⟨m1, m2, rfl⟩ := List.append_of_mem hm
  have := h.apart
  rw [owned_append, owned_cons, List.nodup_append, List.nodup_append] at this
  exact this.2.1.1
section
variable {P : Program} {ops : Array Oper} {Q : Exit → Act → World → Prop} {a : Act} {rest : List Oper} {w : World} {dst : Option Tmp} {ty : TypeId} {pos : String} {af : Array Edge}
theorem wpList_len_chan {x : Operand} {t e : TypeId} {dir : ChanDir} {c cap s r : Nat} {buf : Array Value} {closed : Bool} (ht : P.underlying t = some (.chan dir e)) (hx : a.eval x = .chan (some c)) (hc : w.heap[c]? = some (.chan cap buf closed s r false))
    (k : wpList P ops Q rest (a.put dst (.int .i64 buf.size)) w) : wpList P ops Q (⟨dst, .call { callee := .builtin .len, args := #[x], argTypes := #[t] }, ty, pos, af, none⟩ :: rest) a w := by
  refine wpList_yld ?_ k
  unfold Yld execOp
  simp only [resolve, invoke, builtin, Sem.run_bind, Sem.run_pure, Result.andThen_ok, List.map_toArray, List.map_cons, List.map_nil, hx, run_len_chan t _ ht hc]
  rfl
theorem wpList_cap_chan {x : Operand} {t e : TypeId} {dir : ChanDir} {c cap s r : Nat} {buf : Array Value} {closed : Bool} (ht : P.underlying t = some (.chan dir e)) (hx : a.eval x = .chan (some c)) (hc : w.heap[c]? = some (.chan cap buf closed s r false))
    (k : wpList P ops Q rest (a.put dst (.int .i64 cap)) w) : wpList P ops Q (⟨dst, .call { callee := .builtin .cap, args := #[x], argTypes := #[t] }, ty, pos, af, none⟩ :: rest) a w := by
  refine wpList_yld ?_ k
  unfold Yld execOp
  simp only [resolve, invoke, builtin, Sem.run_bind, Sem.run_pure, Result.andThen_ok, List.map_toArray, List.map_cons, List.map_nil, hx, run_cap_chan t _ ht hc]
  rfl
end
theorem take_bx (w0 : World) (pb c cap : Nat) (a0 : Option Addr) (c0 : Nat) (bs0 : List UInt8) (qs : List (Option Addr × Nat × List UInt8)) (hs : (bxr pb c cap ((a0, c0, bs0) :: qs)).sat w0) (hn : (bxr pb c cap ((a0, c0, bs0) :: qs)).own.Nodup) :
    Calls Try.prog 25 #[.pointer (some ⟨pb, 0, none⟩)] w0 fun e w' => e = .returned (.tuple #[.slice a0 bs0.length c0, .bool true]) ∧ Inv (bxr pb c cap ((a0, c0, bs0) :: qs)).own w0 w' [osl 5 1 (.slice a0 bs0.length c0) bs0.length (bs0.map bv), bxr pb c cap qs] :=
  take_box w0 pb c cap (a0, c0, bs0) qs hs hn
theorem take_bx0 (w0 : World) (pb c cap : Nat) (hs : (bxr pb c cap []).sat w0) :
    Calls Try.prog 25 #[.pointer (some ⟨pb, 0, none⟩)] w0 fun e w' => e = .returned (.tuple #[.slice none 0 0, .bool false]) ∧ w' = w0 := by
  obtain ⟨h1, ⟨s, r, h2⟩, h3⟩ := hs
  exact take_no w0 pb c cap s r h1 h2
theorem turn_bx (w0 : World) (pb c cap : Nat) (a0 : Option Addr) (c0 : Nat) (bs0 : List UInt8) (qs : List (Option Addr × Nat × List UInt8)) (hs : (bxr pb c cap ((a0, c0, bs0) :: qs)).sat w0) (hn : (bxr pb c cap ((a0, c0, bs0) :: qs)).own.Nodup) (hcap : qs.length < cap) (hl : bs0.length ≤ 100000) :
    Calls Try.prog 26 #[.pointer (some ⟨pb, 0, none⟩)] w0 fun e w' => e = .returned (.bool true) ∧ ∃ a1 c1, Inv (bxr pb c cap ((a0, c0, bs0) :: qs)).own w0 w' [bxr pb c cap (qs ++ [(a1, c1, bs0)])] := by
  have hI := bxr_take hs hn
  clear hs hn
  go_enter Try.func26, Try.ntmps26
  go_wp2_with (first | ((with_reducible refine wpList_on  (by with_unfolding_all rfl) ?_)) | (go_at_call 25; (with_reducible refine (take_bx _ pb c cap a0 c0 bs0 qs (hI.sat _ (by (first | with_reducible exact mm0 | with_reducible exact mm1 | with_reducible exact mm2 | with_reducible exact mm3 | with_reducible exact mm4 | with_reducible exact mm5 | with_reducible exact mm6 | with_reducible exact mm7 | with_reducible exact mm8 | with_reducible exact mm9))) (hI.nd (by (first | with_reducible exact mm0 | with_reducible exact mm1 | with_reducible exact mm2 | with_reducible exact mm3 | with_reducible exact mm4 | with_reducible exact mm5 | with_reducible exact mm6 | with_reducible exact mm7 | with_reducible exact mm8 | with_reducible exact mm9)))).mono ?_); rintro e w1 ⟨rfl, hJ⟩; replace hI := hI.on2 hJ Upd.here; clear hJ) | (go_at_call 23; (with_reducible refine (put_box _ pb c cap qs (hI.sat _ (by (first | with_reducible exact mm0 | with_reducible exact mm1 | with_reducible exact mm2 | with_reducible exact mm3 | with_reducible exact mm4 | with_reducible exact mm5 | with_reducible exact mm6 | with_reducible exact mm7 | with_reducible exact mm8 | with_reducible exact mm9))) (hI.nd (by (first | with_reducible exact mm0 | with_reducible exact mm1 | with_reducible exact mm2 | with_reducible exact mm3 | with_reducible exact mm4 | with_reducible exact mm5 | with_reducible exact mm6 | with_reducible exact mm7 | with_reducible exact mm8 | with_reducible exact mm9))) (by omega) _ _ bs0 (hI.rd mm0) hl).mono ?_); rintro e w1 ⟨rfl, a1, c1, hJ⟩; replace hI := hI.on hJ (Upd.there Upd.here); clear hJ))
  go_ret
  exact ⟨rfl, a1, c1, hI.sub (.cons _ (.refl _))⟩
theorem turn_bx0 (w0 : World) (pb c cap : Nat) (hs : (bxr pb c cap []).sat w0) (hn : (bxr pb c cap []).own.Nodup) :
    Calls Try.prog 26 #[.pointer (some ⟨pb, 0, none⟩)] w0 fun e w' => e = .returned (.bool false) ∧ w' = w0 := by
  have hI := bxr_take hs hn
  clear hs hn
  go_enter Try.func26, Try.ntmps26
  go_wp2_with (first | ((with_reducible refine wpList_on  (by with_unfolding_all rfl) ?_)) | (go_at_call 25; (with_reducible refine (take_bx0 _ pb c cap (hI.sat _ (by (first | with_reducible exact mm0 | with_reducible exact mm1 | with_reducible exact mm2 | with_reducible exact mm3 | with_reducible exact mm4 | with_reducible exact mm5 | with_reducible exact mm6 | with_reducible exact mm7 | with_reducible exact mm8 | with_reducible exact mm9)))).mono ?_); rintro e w1 ⟨rfl, rfl⟩))
  go_ret
  exact ⟨rfl, rfl⟩
theorem len_bx (w0 : World) (pb c cap : Nat) (qs : List (Option Addr × Nat × List UInt8)) (hs : (bxr pb c cap qs).sat w0) :
    Calls Try.prog 27 #[.pointer (some ⟨pb, 0, none⟩)] w0 fun e w' => e = .returned (.int .i64 qs.length) ∧ w' = w0 := by
  obtain ⟨h1, ⟨s, r, hch⟩, h3⟩ := hs
  have hcell : w0.cell? ⟨pb, 0, none⟩ = some (.chan (some c)) := by simp [World.cell?, h1]
  have hsz : ((qs.map qv).toArray.size : Int) = qs.length := by simp
  go_enter Try.func27, Try.ntmps27
  go_wp2_with (first | (with_reducible refine wpList_len_chan Try.underlying67 (by with_unfolding_all rfl) hch ?_))
  go_ret
  exact ⟨by simp, rfl⟩
end Go.Proofs.Ytckoiabainpamaa
