/-
  Contracts of package box: Take, Put. No condition but that the channel is open.
-/
import Derived.Test.YtckoiabainpamaaCom
import Derived.Test.YtckoiabainpamaaSumPut
namespace Go.Proofs.Ytckoiabainpamaa
open Go.RowKit Go.Conc
set_option maxRecDepth 100000
theorem zv22 (w : World) : (zeroValue 22).run Try.prog w = .ok (.slice none 0 0) w := by
  have hz : (Try.prog.info? 22).map (·.zero) = some (some (.slice none 0 0)) := by kernel_rfl
  obtain ⟨inf, hinf, hz'⟩ := Option.map_eq_some_iff.1 hz
  simp [zeroValue, typeInfo, hinf, hz']
theorem take_yes (w0 : World) (pb c cap s r : Nat) (v : Value) (vs : List Value) (hb : w0.heap[pb]? = some (.cells #[.chan (some c)] 69 (0, 0))) (hc : w0.heap[c]? = some (.chan cap (v :: vs).toArray false s r false)) :
    Calls Try.prog 25 #[.pointer (some ⟨pb, 0, none⟩)] w0 fun e w' => e = .returned (.tuple #[v, .bool true]) ∧ w' = w0.setChan c cap vs.toArray false s (r + 1) false := by
  have hcell : w0.cell? ⟨pb, 0, none⟩ = some (.chan (some c)) := by simp [World.cell?, hb]
  refine calls_of_nwp Try.func25 rfl ?_
  simp only [Try.ntmps25, List.size_toArray, List.length_cons, List.length_nil, Nat.reduceAdd, Nat.reduceSub, Array.replicate_succ, Array.replicate_zero, List.push_toArray, List.append_toArray, List.nil_append, List.cons_append]
  refine NWp.seq (NWp.of ?_)
  go_wp2
  refine NWp.seq (NWp.of ?_)
  go_wp2
  refine NWp.seq (NWp.region ?_)
  have hz := zv22 w0
  refine NReg.comm (i := 0) (rest := List.range' 1 2) rfl rfl (cases := #[rcase c (.slice none 0 0)]) (blocking := false) (shape := .select) (by simp [execOp, rcase, Act.eval, Sem.run_bind, hz, Result.andThen]) (fun fr cs es h => step_lone_select_recv_buf h hc (by simp)) ?_
  refine NReg.list 1 _ rfl ?_
  have e1 : (v :: vs).toArray.getD 0 undef = v := by simp
  have e2 : (v :: vs).toArray.extract 1 = vs.toArray := by simp
  rw [e1, e2]
  generalize w0.setChan c cap vs.toArray false s (r + 1) false = w1
  (simp only [List.drop_succ_cons, List.drop_zero, Act.put, List.getElem_toArray, List.getElem_cons_zero, List.setIfInBounds_toArray, List.set_cons_succ, List.set_cons_zero, goInt])
  go_wp2
  refine NWp.of ?_
  go_wp2
  go_ret2
  exact ⟨rfl, rfl⟩
theorem take_no (w0 : World) (pb c cap s r : Nat) (hb : w0.heap[pb]? = some (.cells #[.chan (some c)] 69 (0, 0))) (hc : w0.heap[c]? = some (.chan cap #[] false s r false)) :
    Calls Try.prog 25 #[.pointer (some ⟨pb, 0, none⟩)] w0 fun e w' => e = .returned (.tuple #[.slice none 0 0, .bool false]) ∧ w' = w0 := by
  have hcell : w0.cell? ⟨pb, 0, none⟩ = some (.chan (some c)) := by simp [World.cell?, hb]
  refine calls_of_nwp Try.func25 rfl ?_
  simp only [Try.ntmps25, List.size_toArray, List.length_cons, List.length_nil, Nat.reduceAdd, Nat.reduceSub, Array.replicate_succ, Array.replicate_zero, List.push_toArray, List.append_toArray, List.nil_append, List.cons_append]
  refine NWp.seq (NWp.of ?_)
  go_wp2
  refine NWp.seq (NWp.of ?_)
  go_wp2
  refine NWp.seq (NWp.region ?_)
  have hz := zv22 w0
  refine NReg.comm (i := 0) (rest := List.range' 1 2) rfl rfl (cases := #[rcase c (.slice none 0 0)]) (blocking := false) (shape := .select) (by simp [execOp, rcase, Act.eval, Sem.run_bind, hz, Result.andThen]) (fun fr cs es h => step_lone_select_default h hc) ?_
  refine NReg.list 1 _ rfl ?_
  (simp only [List.drop_succ_cons, List.drop_zero, Act.put, List.getElem_toArray, List.getElem_cons_zero, List.setIfInBounds_toArray, List.set_cons_succ, List.set_cons_zero, goInt])
  go_wp2
  refine NWp.of ?_
  go_wp2
  go_ret2
  exact ⟨rfl, rfl⟩
theorem setChan_step (w : World) (c cap : Nat) (buf : Array Value) (cl : Bool) (s r : Nat) (tm : Bool) : Step [c] w (w.setChan c cap buf cl s r tm) :=
  ⟨rfl, rfl, rfl, by simp [World.setChan], fun k _ hn => by
    simp only [World.setChan]
    rw [Array.getElem?_setIfInBounds_ne (by rintro rfl; exact hn (by simp))]⟩
theorem put_yes (w0 : World) (pb c cap s r : Nat) (vs : List Value) (hb : w0.heap[pb]? = some (.cells #[.chan (some c)] 69 (0, 0))) (hc : w0.heap[c]? = some (.chan cap vs.toArray false s r false)) (hroom : vs.length < cap)
    (a : Option Addr) (cp : Nat) (bs : List UInt8) (hr : Rd w0 a (bs.map bv)) (hl : bs.length ≤ 100000) :
    Calls Try.prog 23 #[.pointer (some ⟨pb, 0, none⟩), .slice a bs.length cp] w0 fun e w' => e = .returned (.bool true) ∧ ∃ a1 c1, (osl 5 1 (.slice a1 bs.length c1) bs.length (bs.map bv)).sat w' ∧ Step [c] w0 w' ∧
      w'.heap[c]? = some (.chan cap (vs ++ [Value.slice a1 bs.length c1]).toArray false (s + 1) r false) ∧ ∀ k ∈ (osl 5 1 (.slice a1 bs.length c1) bs.length (bs.map bv)).own, w0.heap.size ≤ k ∧ k < w'.heap.size := by
  have hcell : w0.cell? ⟨pb, 0, none⟩ = some (.chan (some c)) := by simp [World.cell?, hb]
  have hlt : c < w0.heap.size := (Array.getElem?_eq_some_iff.1 hc).1
  have hI := Inv.start w0
  refine calls_of_nwp Try.func23 rfl ?_
  simp only [Try.ntmps23, List.size_toArray, List.length_cons, List.length_nil, Nat.reduceAdd, Nat.reduceSub, Array.replicate_succ, Array.replicate_zero, List.push_toArray, List.append_toArray, List.nil_append, List.cons_append]
  refine NWp.seq (NWp.of ?_)
  go_wp2
  refine NWp.seq (NWp.of ?_)
  go_wp2_with (first | (with_reducible refine wpList_bslice0 hI slT22 ?_; clear hI; intro bx w hI) | (with_reducible refine wpList_append_osl (q := bs.length) hI (by with_unfolding_all rfl) (by with_unfolding_all rfl) slT22 (by intro r'; exact Upd.here) (hI.rd0 hr) (by simp) (bv_one _) (by simp only [maxLen]; omega) (by omega) ?_; clear hI; intro a1 c1 w hI))
  refine NWp.seq (NWp.region ?_)
  simp only [Nat.zero_add, List.nil_append] at hI ⊢
  have hz := zv22 w
  have hcw : w.heap[c]? = some (.chan cap vs.toArray false s r false) := (hI.old c hlt (by simp)).trans hc
  simp only [Act.put, List.setIfInBounds_toArray, List.set_cons_succ, List.set_cons_zero]
  refine NReg.comm (i := 0) (rest := List.range' 1 2) rfl rfl (cases := #[scase c (.slice a1 bs.length c1) (.slice none 0 0)]) (blocking := false) (shape := .select) (by simp [execOp, scase, Act.eval, Sem.run_bind, hz, Result.andThen]) (fun fr cs es h => step_lone_select_send_room h hcw (by simpa using hroom)) ?_
  refine NReg.list 1 _ rfl ?_
  have hst := setChan_step w c cap (vs.toArray.push (.slice a1 bs.length c1)) false (s + 1) r false
  have hlt2 : c < w.heap.size := (Array.getElem?_eq_some_iff.1 hcw).1
  have hnew := heap_setChan w c cap (vs.toArray.push (.slice a1 bs.length c1)) false (s + 1) r false hlt2
  generalize w.setChan c cap (vs.toArray.push (.slice a1 bs.length c1)) false (s + 1) r false = w1 at *
  (simp only [List.drop_succ_cons, List.drop_zero, Act.put, List.getElem_toArray, List.getElem_cons_zero, List.setIfInBounds_toArray, List.set_cons_succ, List.set_cons_zero, goInt])
  go_wp2
  refine NWp.of ?_
  go_wp2
  go_ret
  have hown : ∀ k ∈ (osl 5 1 (.slice a1 bs.length c1) bs.length (bs.map bv)).own, w0.heap.size ≤ k ∧ k < w.heap.size := fun k hk => by
    have := hI.mine k (mem_owned.2 ⟨_, by simp, hk⟩)
    exact ⟨this.1.resolve_right (by simp), this.2⟩
  refine ⟨rfl, a1, c1, ?_, ?_, ?_, ?_⟩
  · exact (osl 5 1 (.slice a1 bs.length c1) bs.length (bs.map bv)).loc w w1 (fun k hk => hst.same k (hown k hk).2 (by have := (hown k hk).1; simp; omega)) (hI.sat _ (by simp))
  · exact (hI.end_.mono (by simp)).trans hst
  · rw [hnew]; simp
  · exact fun k hk => ⟨(hown k hk).1, Nat.lt_of_lt_of_le (hown k hk).2 hst.size⟩
theorem put_no (w0 : World) (pb c cap s r : Nat) (vs : List Value) (hb : w0.heap[pb]? = some (.cells #[.chan (some c)] 69 (0, 0))) (hc : w0.heap[c]? = some (.chan cap vs.toArray false s r false)) (hfull : cap ≤ vs.length)
    (a : Option Addr) (cp : Nat) (bs : List UInt8) (hr : Rd w0 a (bs.map bv)) (hl : bs.length ≤ 100000) :
    Calls Try.prog 23 #[.pointer (some ⟨pb, 0, none⟩), .slice a bs.length cp] w0 fun e w' => e = .returned (.bool false) ∧ Below w0.heap.size w0 w' := by
  have hcell : w0.cell? ⟨pb, 0, none⟩ = some (.chan (some c)) := by simp [World.cell?, hb]
  have hlt : c < w0.heap.size := (Array.getElem?_eq_some_iff.1 hc).1
  have hI := Inv.start w0
  refine calls_of_nwp Try.func23 rfl ?_
  simp only [Try.ntmps23, List.size_toArray, List.length_cons, List.length_nil, Nat.reduceAdd, Nat.reduceSub, Array.replicate_succ, Array.replicate_zero, List.push_toArray, List.append_toArray, List.nil_append, List.cons_append]
  refine NWp.seq (NWp.of ?_)
  go_wp2
  refine NWp.seq (NWp.of ?_)
  go_wp2_with (first | (with_reducible refine wpList_bslice0 hI slT22 ?_; clear hI; intro bx w hI) | (with_reducible refine wpList_append_osl (q := bs.length) hI (by with_unfolding_all rfl) (by with_unfolding_all rfl) slT22 (by intro r'; exact Upd.here) (hI.rd0 hr) (by simp) (bv_one _) (by simp only [maxLen]; omega) (by omega) ?_; clear hI; intro a1 c1 w hI))
  refine NWp.seq (NWp.region ?_)
  simp only [Nat.zero_add, List.nil_append] at hI ⊢
  have hz := zv22 w
  have hcw : w.heap[c]? = some (.chan cap vs.toArray false s r false) := (hI.old c hlt (by simp)).trans hc
  simp only [Act.put, List.setIfInBounds_toArray, List.set_cons_succ, List.set_cons_zero]
  refine NReg.comm (i := 0) (rest := List.range' 1 2) rfl rfl (cases := #[scase c (.slice a1 bs.length c1) (.slice none 0 0)]) (blocking := false) (shape := .select) (by simp [execOp, scase, Act.eval, Sem.run_bind, hz, Result.andThen]) (fun fr cs es h => step_lone_select_send_full h hcw (by simpa using hfull)) ?_
  refine NReg.list 1 _ rfl ?_
  (simp only [List.drop_succ_cons, List.drop_zero, Act.put, List.getElem_toArray, List.getElem_cons_zero, List.setIfInBounds_toArray, List.set_cons_succ, List.set_cons_zero, goInt])
  go_wp2
  refine NWp.of ?_
  go_wp2
  go_ret
  exact ⟨rfl, hI.below⟩
end Go.Proofs.Ytckoiabainpamaa
