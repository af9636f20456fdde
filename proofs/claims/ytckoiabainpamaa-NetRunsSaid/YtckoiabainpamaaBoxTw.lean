/-
  The contract of box.Twice. No condition.
-/
import Derived.Test.YtckoiabainpamaaBox2
namespace Go.Proofs.Ytckoiabainpamaa
open Go.RowKit Go.Conc
set_option maxRecDepth 100000
theorem twice_no (w0 : World) (pb c cap : Nat) (qs : List (Option Addr × Nat × List UInt8)) (hs : (bxr pb c cap qs).sat w0) (h0 : qs.length = 0 ∨ (qs.length ≠ 0 ∧ qs.length = cap)) :
    Calls Try.prog 24 #[.pointer (some ⟨pb, 0, none⟩)] w0 fun e w' => e = .returned (.bool false) ∧ w' = w0 := by
  obtain ⟨h1, ⟨s, r, hch⟩, h3⟩ := id hs
  have hcell : w0.cell? ⟨pb, 0, none⟩ = some (.chan (some c)) := by simp [World.cell?, h1]
  rcases h0 with h0 | ⟨h0, h2⟩
  · have e1 : ((qs.length : Int) == 0) = true := by simp [h0]
    go_enter Try.func24, Try.ntmps24
    go_wp2_with (first | ((with_reducible refine wpList_on  (by with_unfolding_all rfl) ?_)) | (go_at_call 27; (with_reducible refine (len_bx _ pb c cap qs hs).mono ?_); rintro e w1 ⟨rfl, hw⟩; rw [hw]; clear hw) | (with_reducible refine wpList_cap_chan Try.underlying67 (by with_unfolding_all rfl) hch ?_))
    go_ret
    exact ⟨rfl, rfl⟩
  · have e1 : ((qs.length : Int) == 0) = false := by simp; exact fun h => h0 (by rw [h]; rfl)
    have e2 : ((qs.length : Int) == (cap : Int)) = true := by simp [h2]
    clear h0 h2
    go_enter Try.func24, Try.ntmps24
    go_wp2_with (first | ((with_reducible refine wpList_on  (by with_unfolding_all rfl) ?_)) | (go_at_call 27; (with_reducible refine (len_bx _ pb c cap qs hs).mono ?_); rintro e w1 ⟨rfl, hw⟩; rw [hw]; clear hw) | (with_reducible refine wpList_cap_chan Try.underlying67 (by with_unfolding_all rfl) hch ?_))
    go_ret
    exact ⟨rfl, rfl⟩
/-- what the loop leaves: the places turned j times -/
def rotW (w0 : World) (pb c cap : Nat) (qs : List (Option Addr × Nat × List UInt8)) (j : Nat) (w : World) : Prop :=
  ∃ s r, Step [c] w0 w ∧ w.heap[c]? = some (.chan cap ((qs.drop j ++ qs.take j).map qv).toArray false s r false) ∧ w.cell? ⟨pb, 0, none⟩ = some (.chan (some c))
def rotI (w0 : World) (pb c cap : Nat) (qs : List (Option Addr × Nat × List UInt8)) (q0 : Option Addr × Nat × List UInt8) (a : Act) (w : World) : Prop :=
  ∃ (j : Nat) (f4 s5 s6 s22 s23 s24 s25 s26 s27 s28 s29 s30 s31 s32 s33 s34 s35 s36 s37 : Value), j ≤ qs.length ∧ a = (⟨#[.pointer (some ⟨pb, 0, none⟩), undef, .bool false, .int .i64 qs.length, f4, s5, s6, .pointer (some ⟨pb, 0, none⟩), .int .i64 qs.length, .int .i64 qs.length, .bool false, .bool false, .int .i64 qs.length, .pointer (some ⟨pb, 0, none⟩), .pointer (some ⟨pb, 0, none⟩), .pointer (some ⟨pb, 0, none⟩), .chan (some c), .int .i64 cap, .bool false, .bool false, .int .i64 qs.length, .int .i64 (j : Nat), s22, s23, s24, s25, s26, s27, s28, s29, s30, s31, s32, s33, s34, s35, s36, s37, undef, undef, undef], []⟩ : Act) ∧ f4 = (if j = 0 then .slice none 0 0 else qv q0) ∧ rotW w0 pb c cap qs j w
theorem ext1 (x : Value) (l : List Value) : (x :: l).toArray.extract 1 = l.toArray := by simp
theorem psh1 (l : List (Option Addr × Nat × List UInt8)) (q : Option Addr × Nat × List UInt8) : (l.map qv).toArray.push (qv q) = ((l ++ [q]).map qv).toArray := by simp
theorem Inv.after {T : List Nat} {w0 w w' : World} {m : List Res} (h : Inv T w w' m) (hs : Step T w0 w) : Inv T w0 w' m :=
  ⟨h.os.trans hs.os, h.tape.trans hs.tape, h.output.trans hs.output, Nat.le_trans hs.size h.size, fun k hk hkT => (h.old k (Nat.lt_of_lt_of_le hk hs.size) hkT).trans (hs.same k hk hkT), h.sat, fun k hk => by
    have := h.mine k hk
    refine ⟨?_, this.2⟩
    rcases this.1 with h1 | h1
    · exact .inl (Nat.le_trans hs.size h1)
    · exact .inr h1, h.apart⟩
theorem cell_chan {w : World} {pb c pb' : Nat} {cap s r : Nat} {buf : Array Value} (h : w.cell? ⟨pb, 0, none⟩ = some (.chan (some c))) (hc : w.heap[pb']? = some (.chan cap buf false s r false)) : pb ≠ pb' := by
  rintro rfl
  simp [World.cell?, hc] at h
theorem cell_set {w : World} {pb c cap s r : Nat} {buf : Array Value} (h : w.cell? ⟨pb, 0, none⟩ = some (.chan (some c))) (hne : pb ≠ c) : (w.setChan c cap buf false s r false).cell? ⟨pb, 0, none⟩ = some (.chan (some c)) := by
  have : (w.setChan c cap buf false s r false).heap[pb]? = w.heap[pb]? := by
    simp only [World.setChan]
    rw [Array.getElem?_setIfInBounds_ne (Ne.symm hne)]
  simp only [World.cell?, this] at h ⊢
  exact h
theorem twice_walk (w0 : World) (pb c cap : Nat) (q0 : Option Addr × Nat × List UInt8) (qs' : List (Option Addr × Nat × List UInt8)) (hs : (bxr pb c cap (q0 :: qs')).sat w0) (hn : (bxr pb c cap (q0 :: qs')).own.Nodup) (h2 : (q0 :: qs').length < cap) (hcap : cap ≤ 64) (hl : q0.2.2.length ≤ 100000) :
    Calls Try.prog 24 #[.pointer (some ⟨pb, 0, none⟩)] w0 fun e w' => e = .returned (.bool true) ∧ ∃ a1 c1, Inv (bxr pb c cap (q0 :: qs')).own w0 w' [bxr pb c cap ((q0 :: qs') ++ [(a1, c1, q0.2.2)])] := by
  obtain ⟨qs, hqs⟩ : ∃ qs, q0 :: qs' = qs := ⟨_, rfl⟩
  have hq0 : qs[0]? = some q0 := by rw [← hqs]; rfl
  rw [hqs] at hs hn h2 ⊢
  have h0 : qs.length ≠ 0 := by rw [← hqs]; simp
  clear hqs
  obtain ⟨a0, c0, bs0⟩ := q0
  have hI0 := bxr_take hs hn
  obtain ⟨h1, ⟨s, r, hch⟩, h3⟩ := id hs
  have hcell : w0.cell? ⟨pb, 0, none⟩ = some (.chan (some c)) := by simp [World.cell?, h1]
  have hne := cell_chan hcell hch
  have e1 : ((qs.length : Int) == 0) = false := by simp; exact fun h => h0 (by rw [h]; rfl)
  have e2 : ((qs.length : Int) == (cap : Int)) = false := by simp; omega
  refine calls_of_nwp Try.func24 rfl ?_
  simp only [Try.ntmps24, List.size_toArray, List.length_cons, List.length_nil, Nat.reduceAdd, Nat.reduceSub, Array.replicate_succ, Array.replicate_zero, List.push_toArray, List.append_toArray, List.nil_append, List.cons_append]
  refine NWp.seq (NWp.of ?_)
  go_wp2
  refine NWp.seq (NWp.of ?_)
  go_wp2_with (first | ((with_reducible refine wpList_on  (by with_unfolding_all rfl) ?_)) | (go_at_call 27; (with_reducible refine (len_bx _ pb c cap qs hs).mono ?_); rintro e w1 ⟨rfl, hw⟩; rw [hw]; clear hw))
  refine NWp.seq (NWp.of ?_)
  go_wp2_with (first | ((with_reducible refine wpList_on  (by with_unfolding_all rfl) ?_)) | (with_reducible refine wpList_cap_chan Try.underlying67 (by with_unfolding_all rfl) hch ?_))
  refine NWp.seq (NWp.of ?_)
  go_wp2
  refine NWp.seq (NWp.seq (NWp.of ?_))
  go_wp2
  refine NWp.block ?_
  refine NWp.loop (rotI w0 pb c cap qs (a0, c0, bs0)) (fun a _ => qs.length - (intOf (a.tmps.getD 21 undef)).toNat) ?_ ?_
  · exact ⟨0, _, _, _, _, _, _, _, _, _, _, _, _, _, _, _, _, _, _, _, by omega, rfl, by rw [if_pos rfl], s, r, Step.refl _ _, by simpa using hch, hcell⟩
  · rintro a w ⟨j, f4, s5, s6, s22, s23, s24, s25, s26, s27, s28, s29, s30, s31, s32, s33, s34, s35, s36, s37, hj, rfl, hf, sj, rj, hst, hcj, hcl⟩
    replace hf := Lib.hid hf
    refine NWp.seq (NWp.of ?_)
    have hj64 : (j : Int) < 64 := by omega
    by_cases hlj : j < qs.length
    · go_wp2
      refine NWp.seq (NWp.of ?_)
      go_wp2
      refine NWp.seq (NWp.block ?_)
      refine NWp.seq (NWp.of ?_)
      go_wp2
      refine NWp.seq (NWp.region ?_)
      refine NReg.pren (r := [4, 5]) 4 ?_
      simp only [List.take_succ_cons, List.take_zero]
      go_wp2
      have hz := zv22 w
      have hd : qs.drop j = qs[j] :: qs.drop (j + 1) := List.drop_eq_getElem_cons hlj
      have hcj2 : w.heap[c]? = some (.chan cap (qv qs[j] :: (qs.drop (j + 1) ++ qs.take j).map qv).toArray false sj rj false) := by rw [hcj, hd]; rfl
      clear hcj
      refine NReg.comm (i := 4) (rest := List.range' 5 1) rfl rfl (cases := #[rcase c (.slice none 0 0)]) (blocking := true) (shape := .recv false) (by simp [execOp, rcase, Act.eval, Sem.run_bind, run_underlying Try.underlying67, hz, Result.andThen]) (fun fr cs es h => step_lone_recv_buf false h hcj2 (by simp)) ?_
      refine NReg.list 5 _ rfl ?_
      have q1 : got false ((qv qs[j] :: (qs.drop (j + 1) ++ qs.take j).map qv).toArray.getD 0 undef) true = qv qs[j] := by simp [got]
      have q2 : (qv qs[j] :: (qs.drop (j + 1) ++ qs.take j).map qv).toArray.extract 1 = ((qs.drop (j + 1) ++ qs.take j).map qv).toArray := ext1 _ _
      rw [q1, q2]
      have hlt := (Array.getElem?_eq_some_iff.1 hcj2).1
      have st1 := setChan_step w c cap ((qs.drop (j + 1) ++ qs.take j).map qv).toArray false sj (rj + 1) false
      have hc1 := heap_setChan w c cap ((qs.drop (j + 1) ++ qs.take j).map qv).toArray false sj (rj + 1) false hlt
      have hcl1 := cell_set (cap := cap) (s := sj) (r := rj + 1) (buf := ((qs.drop (j + 1) ++ qs.take j).map qv).toArray) hcl hne
      generalize w.setChan c cap ((qs.drop (j + 1) ++ qs.take j).map qv).toArray false sj (rj + 1) false = w1 at *
      have hst1 := hst.trans st1
      clear hst st1 hcj2 hcl hlt hz q1 q2
      (simp only [List.drop_succ_cons, List.drop_zero, Act.put, List.getElem_toArray, List.getElem_cons_zero, List.setIfInBounds_toArray, List.set_cons_succ, List.set_cons_zero, goInt])
      go_wp2
      refine NWp.seq (NWp.of ?_)
      by_cases hj0 : j = 0
      · subst hj0
        have hjq : qv qs[0] = qv (a0, c0, bs0) := by
          have := List.getElem?_eq_getElem hlj
          rw [hq0] at this
          rw [← Option.some.inj this]
        replace hjq := Lib.hid hjq
        go_wp2
        refine NWp.region ?_
        refine NReg.pren (r := [5]) 5 ?_
        simp only [List.take_succ_cons, List.take_zero]
        go_wp2
        refine NReg.comm (i := 5) (rest := List.range' 6 0) rfl rfl (cases := #[scase c (qv qs[0]) (.tuple #[])]) (blocking := true) (shape := .send) (by simp [execOp, scase, Act.eval]) (fun fr cs es h => step_lone_send_room h hc1 (by simp; omega)) ?_
        refine NReg.list 6 _ rfl ?_
        have q3 : ((qs.drop (0 + 1) ++ qs.take 0).map qv).toArray.push (qv qs[0]) = ((qs.drop (0 + 1) ++ qs.take (0 + 1)).map qv).toArray := by
          rw [psh1, List.append_assoc, ← List.take_succ_eq_append_getElem hlj]
        rw [q3]
        have hlt1 := (Array.getElem?_eq_some_iff.1 hc1).1
        have st2 := setChan_step w1 c cap ((qs.drop (0 + 1) ++ qs.take (0 + 1)).map qv).toArray false (sj + 1) (rj + 1) false
        have hc2 := heap_setChan w1 c cap ((qs.drop (0 + 1) ++ qs.take (0 + 1)).map qv).toArray false (sj + 1) (rj + 1) false hlt1
        have hcl2 := cell_set (cap := cap) (s := sj + 1) (r := rj + 1) (buf := ((qs.drop (0 + 1) ++ qs.take (0 + 1)).map qv).toArray) hcl1 hne
        generalize w1.setChan c cap ((qs.drop (0 + 1) ++ qs.take (0 + 1)).map qv).toArray false (sj + 1) (rj + 1) false = w2 at *
        have hst2 := hst1.trans st2
        clear st2 hst1 hc1 hcl1 hlt1 q3
        (simp only [List.drop_succ_cons, List.drop_zero, Act.put, List.getElem_toArray, List.getElem_cons_zero, List.setIfInBounds_toArray, List.set_cons_succ, List.set_cons_zero, goInt])
        go_wp2
        refine NWp.of ?_
        go_wp2
        refine ⟨⟨0 + 1, _, _, _, _, _, _, _, _, _, _, _, _, _, _, _, _, _, _, _, by omega, (by first | rfl | rw [show ((j + 1 : Nat) : Int) = (j : Int) + 1 from by omega]), ?_, sj + 1, rj + 1, hst2, hc2, hcl2⟩, ?_⟩
        · rw [if_neg (by omega)]; exact hjq.out
        · simp [intOf]; omega

      · have hb0 : ((j : Int) == 0) = false := by simp; omega
        have hf := hf.out
        rw [if_neg hj0] at hf
        go_wp2
        refine NWp.region ?_
        refine NReg.pren (r := [5]) 5 ?_
        simp only [List.take_succ_cons, List.take_zero]
        go_wp2
        refine NReg.comm (i := 5) (rest := List.range' 6 0) rfl rfl (cases := #[scase c (qv qs[j]) (.tuple #[])]) (blocking := true) (shape := .send) (by simp [execOp, scase, Act.eval]) (fun fr cs es h => step_lone_send_room h hc1 (by simp; omega)) ?_
        refine NReg.list 6 _ rfl ?_
        have q3 : ((qs.drop (j + 1) ++ qs.take j).map qv).toArray.push (qv qs[j]) = ((qs.drop (j + 1) ++ qs.take (j + 1)).map qv).toArray := by
          rw [psh1, List.append_assoc, ← List.take_succ_eq_append_getElem hlj]
        rw [q3]
        have hlt1 := (Array.getElem?_eq_some_iff.1 hc1).1
        have st2 := setChan_step w1 c cap ((qs.drop (j + 1) ++ qs.take (j + 1)).map qv).toArray false (sj + 1) (rj + 1) false
        have hc2 := heap_setChan w1 c cap ((qs.drop (j + 1) ++ qs.take (j + 1)).map qv).toArray false (sj + 1) (rj + 1) false hlt1
        have hcl2 := cell_set (cap := cap) (s := sj + 1) (r := rj + 1) (buf := ((qs.drop (j + 1) ++ qs.take (j + 1)).map qv).toArray) hcl1 hne
        generalize w1.setChan c cap ((qs.drop (j + 1) ++ qs.take (j + 1)).map qv).toArray false (sj + 1) (rj + 1) false = w2 at *
        have hst2 := hst1.trans st2
        clear st2 hst1 hc1 hcl1 hlt1 q3
        (simp only [List.drop_succ_cons, List.drop_zero, Act.put, List.getElem_toArray, List.getElem_cons_zero, List.setIfInBounds_toArray, List.set_cons_succ, List.set_cons_zero, goInt])
        go_wp2
        refine NWp.of ?_
        go_wp2
        refine ⟨⟨j + 1, _, _, _, _, _, _, _, _, _, _, _, _, _, _, _, _, _, _, _, by omega, (by first | rfl | rw [show ((j + 1 : Nat) : Int) = (j : Int) + 1 from by omega]), ?_, sj + 1, rj + 1, hst2, hc2, hcl2⟩, ?_⟩
        · rw [if_neg (by omega)]
        · simp [intOf]; omega
    · obtain rfl : j = qs.length := by omega
      go_wp2
      refine NWp.seq (NWp.of ?_)
      go_wp2
      have hf := hf.out
      rw [if_neg h0] at hf
      subst hf
      have hsat : (bxr pb c cap qs).sat w := by
        refine ⟨?_, ⟨sj, rj, by rw [hcj]; simp⟩, fun x hx => ?_⟩
        · rw [hst.same pb (hI0.mine pb (by simp [owned, bxr])).2 (by simpa using hne)]; exact h1
        · refine x.loc w0 w (fun k hk => hst.same k (hI0.mine k (by simp only [owned, List.flatMap_cons, List.flatMap_nil, List.append_nil]; exact List.mem_cons_of_mem _ (List.mem_cons_of_mem _ (mem_owned.2 ⟨x, hx, hk⟩)))).2 ?_) (h3 x hx)
          have hnd := hn
          simp only [bxr, List.nodup_cons] at hnd
          simp only [List.mem_singleton]
          rintro rfl
          exact hnd.2.1 (mem_owned.2 ⟨x, hx, hk⟩)
      have hmem : qr (a0, c0, bs0) ∈ qs.map qr := List.mem_map.2 ⟨_, List.mem_of_getElem? hq0, rfl⟩
      have hrd : Rd w a0 (bs0.map bv) := osl_rd (hsat.2.2 _ hmem)
      have hstT : Step (bxr pb c cap qs).own w0 w := hst.mono (fun k hk => by obtain rfl := List.mem_singleton.1 hk; simp [bxr])
      simp only [qv]
      refine NWp.of ?_
      go_wp2_with (first | (go_at_call 23; refine (put_box _ pb c cap qs hsat hn (by omega) a0 c0 bs0 hrd hl).mono ?_; rintro e w1 ⟨rfl, a1, c1, hJ⟩))
      go_ret
      exact ⟨rfl, a1, c1, hJ.after hstT⟩
end Go.Proofs.Ytckoiabainpamaa
