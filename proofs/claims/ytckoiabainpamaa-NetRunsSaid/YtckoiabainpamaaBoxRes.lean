/-
  A box as a resource: its places hold bytes of its own. No condition.
-/
import Derived.Test.YtckoiabainpamaaBox
namespace Go.Proofs.Ytckoiabainpamaa
open Go.RowKit Go.Conc
set_option maxRecDepth 100000
section
variable {T : List Nat} {w0 w w' : World} {m m' : List Res} {r r' x : Res}
/-- a call that turns one resource that is owned here -/
theorem Inv.on (h : Inv T w0 w m) (hJ : Inv r.own w w' [r']) (hu : Upd r r' m m') : Inv T w0 w' m' := by
  refine h.upd hu hJ.end_ (hJ.sat _ (by simp)) (fun k hk => ?_) ?_
  · have := hJ.mine k (by simpa [owned] using hk)
    rcases this.1 with h1 | h1
    · exact .inr ⟨h1, this.2⟩
    · exact .inl h1
  · have := hJ.apart
    simpa [owned] using this
/-- a resource falls into two -/
theorem Inv.part (h : Inv T w0 w m) (hu : Upd r r' m m') (hr : r'.sat w) (hx : x.sat w) (hp : (x.own ++ r'.own).Perm r.own) : Inv T w0 w (x :: m') := by
  obtain ⟨m1, m2, rfl, rfl⟩ := hu.split
  have hperm : (owned (x :: (m1 ++ r' :: m2))).Perm (owned (m1 ++ r :: m2)) := by
    simp only [owned_append, owned_cons]
    refine List.Perm.trans ?_ (List.Perm.append_left (owned m1) (List.Perm.append_right (owned m2) hp))
    rw [← List.append_assoc x.own]
    refine (List.Perm.append_right _ List.perm_append_comm).trans ?_
    rw [List.append_assoc, List.append_assoc]
  refine ⟨h.os, h.tape, h.output, h.size, h.old, fun y hy => ?_, fun k hk => h.mine k (hperm.subset hk), hperm.nodup_iff.2 h.apart⟩
  simp only [List.mem_cons, List.mem_append] at hy
  rcases hy with rfl | hy | rfl | hy
  · exact hx
  · exact h.sat _ (by simp [hy])
  · exact hr
  · exact h.sat _ (by simp [hy])
theorem Upd.mid (r r' : Res) (m2 : List Res) : ∀ m1 : List Res, Upd r r' (m1 ++ r :: m2) (m1 ++ r' :: m2)
  | [] => Upd.here
  | _ :: m1 => Upd.there (Upd.mid r r' m2 m1)
/-- two at once -/
def two (x r' : Res) : Res := ⟨x.own ++ r'.own, fun w => x.sat w ∧ r'.sat w, fun w w' h hs => ⟨x.loc w w' (fun k hk => h k (List.mem_append.2 (.inl hk))) hs.1, r'.loc w w' (fun k hk => h k (List.mem_append.2 (.inr hk))) hs.2⟩⟩
/-- a call that takes a part of a resource out -/
theorem Inv.on2 (h : Inv T w0 w m) (hJ : Inv r.own w w' [x, r']) (hu : Upd r r' m m') : Inv T w0 w' (x :: m') := by
  obtain ⟨m1, m2, rfl, rfl⟩ := hu.split
  have hJ2 : Inv r.own w w' [two x r'] := ⟨hJ.os, hJ.tape, hJ.output, hJ.size, hJ.old, fun y hy => by
    obtain rfl := List.mem_singleton.1 hy
    exact ⟨hJ.sat _ (by simp), hJ.sat _ (by simp)⟩, fun k hk => hJ.mine k (by simpa [owned, two] using hk), by simpa [owned, two] using hJ.apart⟩
  have h2 := h.on hJ2 (Upd.mid r (two x r') m2 m1)
  have hs := h2.sat (two x r') (by simp)
  exact h2.part (Upd.mid (two x r') r' m2 m1) hs.2 hs.1 (List.Perm.refl _)
end
/-- bytes that wait -/
def qv (q : Option Addr × Nat × List UInt8) : Value := .slice q.1 q.2.2.length q.2.1
def qr (q : Option Addr × Nat × List UInt8) : Res := osl 5 1 (qv q) q.2.2.length (q.2.2.map bv)
def bxr (pb c cap : Nat) (qs : List (Option Addr × Nat × List UInt8)) : Res :=
  ⟨pb :: c :: owned (qs.map qr), fun w => w.heap[pb]? = some (.cells #[.chan (some c)] 69 (0, 0)) ∧ (∃ s r, w.heap[c]? = some (.chan cap (qs.map qv).toArray false s r false)) ∧ ∀ x ∈ qs.map qr, x.sat w, fun w w' h hs => by
    obtain ⟨h1, ⟨s, r, h2⟩, h3⟩ := hs
    refine ⟨by rw [h pb (by simp)]; exact h1, ⟨s, r, by rw [h c (by simp)]; exact h2⟩, fun x hx => x.loc w w' (fun k hk => h k ?_) (h3 x hx)⟩
    exact List.mem_cons_of_mem _ (List.mem_cons_of_mem _ (mem_owned.2 ⟨x, hx, hk⟩))⟩
theorem bxr_take {w : World} {pb c cap : Nat} {qs : List (Option Addr × Nat × List UInt8)} (hs : (bxr pb c cap qs).sat w) (hn : (bxr pb c cap qs).own.Nodup) : Inv (bxr pb c cap qs).own w w [bxr pb c cap qs] := by
  refine ⟨rfl, rfl, rfl, Nat.le_refl _, fun _ _ _ => rfl, fun x hx => by obtain rfl := List.mem_singleton.1 hx; exact hs, fun k hk => ?_, by simpa [owned] using hn⟩
  have hk2 : k ∈ (bxr pb c cap qs).own := by simpa [owned] using hk
  refine ⟨.inr hk2, ?_⟩
  obtain ⟨h1, ⟨s, r, h2⟩, h3⟩ := hs
  simp only [bxr, List.mem_cons] at hk2
  rcases hk2 with rfl | rfl | hk2
  · exact (Array.getElem?_eq_some_iff.1 h1).1
  · exact (Array.getElem?_eq_some_iff.1 h2).1
  · obtain ⟨x, hx, hkx⟩ := mem_owned.1 hk2
    obtain ⟨q, hq, rfl⟩ := List.mem_map.1 hx
    rcases (h3 _ hx).2 with ⟨h0, _⟩ | ⟨g, cp, cur, h0, _, hg, _⟩
    · simp only [qr, osl, h0, Value.ownBlock] at hkx
      simp at hkx
    · simp only [qr, osl, h0, Value.ownBlock] at hkx
      simp at hkx
      subst hkx
      exact (Array.getElem?_eq_some_iff.1 hg).1
theorem put_box (w0 : World) (pb c cap : Nat) (qs : List (Option Addr × Nat × List UInt8)) (hs : (bxr pb c cap qs).sat w0) (hn : (bxr pb c cap qs).own.Nodup) (hroom : qs.length < cap)
    (a : Option Addr) (cp : Nat) (bs : List UInt8) (hr : Rd w0 a (bs.map bv)) (hl : bs.length ≤ 100000) :
    Calls Try.prog 23 #[.pointer (some ⟨pb, 0, none⟩), .slice a bs.length cp] w0 fun e w' => e = .returned (.bool true) ∧ ∃ a1 c1, Inv (bxr pb c cap qs).own w0 w' [bxr pb c cap (qs ++ [(a1, c1, bs)])] := by
  have hI := bxr_take hs hn
  obtain ⟨h1, ⟨s, r, h2⟩, h3⟩ := hs
  refine (put_yes w0 pb c cap s r (qs.map qv) h1 h2 (by simpa using hroom) a cp bs hr hl).mono ?_
  rintro e w' ⟨he, a1, c1, hsat, hst, hc, hown⟩
  have hcT : c ∈ (bxr pb c cap qs).own := by simp [bxr]
  have hne : pb ≠ c := by
    have := hn
    simp only [bxr, List.nodup_cons, List.mem_cons, not_or] at this
    exact this.1.1
  refine ⟨he, a1, c1, hst.os, hst.tape, hst.output, hst.size, fun k hk hkT => hst.same k hk (fun h => hkT (by rw [List.mem_singleton.1 h]; exact hcT)), fun x hx => ?_, fun k hk => ?_, ?_⟩
  · obtain rfl := List.mem_singleton.1 hx
    refine ⟨?_, ⟨s + 1, r, ?_⟩, fun y hy => ?_⟩
    · rw [hst.same pb (hI.mine pb (by simp [owned, bxr])).2 (by simpa using hne)]; exact h1
    · rw [hc]; simp [qv]
    · rw [List.map_append, List.mem_append] at hy
      rcases hy with hy | hy
      · refine y.loc w0 w' (fun k hk => hst.same k (hI.mine k (by simp only [owned, List.flatMap_cons, List.flatMap_nil, List.append_nil]; exact List.mem_cons_of_mem _ (List.mem_cons_of_mem _ (mem_owned.2 ⟨y, hy, hk⟩)))).2 ?_) (h3 y hy)
        have hnd := hn
        simp only [bxr, List.nodup_cons] at hnd
        simp only [List.mem_singleton]
        rintro rfl
        exact hnd.2.1 (mem_owned.2 ⟨y, hy, hk⟩)
      · simp only [List.map_cons, List.map_nil, List.mem_singleton] at hy
        subst hy
        exact hsat
  · have hk2 : k ∈ (bxr pb c cap qs).own ∨ k ∈ (osl 5 1 (.slice a1 bs.length c1) bs.length (bs.map bv)).own := by
      simp only [owned, List.flatMap_cons, List.flatMap_nil, List.append_nil, bxr, List.map_append, List.map_cons, List.map_nil, List.flatMap_append, List.mem_cons, List.mem_append] at hk ⊢
      rcases hk with h | h | h | h
      · exact .inl (.inl h)
      · exact .inl (.inr (.inl h))
      · exact .inl (.inr (.inr h))
      · exact .inr h
    rcases hk2 with h | h
    · have := hI.mine k (by simpa [owned] using h)
      exact ⟨.inr h, Nat.lt_of_lt_of_le this.2 hst.size⟩
    · exact ⟨.inl (hown k h).1, (hown k h).2⟩
  · have e : owned [bxr pb c cap (qs ++ [(a1, c1, bs)])] = (bxr pb c cap qs).own ++ (osl 5 1 (.slice a1 bs.length c1) bs.length (bs.map bv)).own := by
      simp [owned, bxr, qr, qv]
    rw [e, List.nodup_append]
    refine ⟨hn, by cases a1 <;> simp [osl, Value.ownBlock], fun k hk j hj => ?_⟩
    have h1 := (hI.mine k (by simpa [owned] using hk)).2
    have h2 := (hown j hj).1
    omega
theorem take_box (w0 : World) (pb c cap : Nat) (q : Option Addr × Nat × List UInt8) (qs : List (Option Addr × Nat × List UInt8)) (hs : (bxr pb c cap (q :: qs)).sat w0) (hn : (bxr pb c cap (q :: qs)).own.Nodup) :
    Calls Try.prog 25 #[.pointer (some ⟨pb, 0, none⟩)] w0 fun e w' => e = .returned (.tuple #[qv q, .bool true]) ∧ Inv (bxr pb c cap (q :: qs)).own w0 w' [qr q, bxr pb c cap qs] := by
  have hI := bxr_take hs hn
  obtain ⟨h1, ⟨s, r, h2⟩, h3⟩ := hs
  refine (take_yes w0 pb c cap s r (qv q) (qs.map qv) h1 (by simpa using h2)).mono ?_
  rintro e w' ⟨he, hw⟩
  have hlt := (Array.getElem?_eq_some_iff.1 h2).1
  have hst : Step [c] w0 w' := by rw [hw]; exact setChan_step _ _ _ _ _ _ _ _
  have hc : w'.heap[c]? = some (.chan cap (qs.map qv).toArray false s (r + 1) false) := by rw [hw]; exact heap_setChan _ _ _ _ _ _ _ _ hlt
  clear hw
  have hcT : c ∈ (bxr pb c cap (q :: qs)).own := by simp [bxr]
  have hnd := hn
  simp only [bxr, List.nodup_cons, List.mem_cons, not_or] at hnd
  have hkeep : ∀ y ∈ (q :: qs).map qr, y.sat w' := fun y hy => by
    refine y.loc w0 w' (fun k hk => hst.same k (hI.mine k (by simp only [owned, List.flatMap_cons, List.flatMap_nil, List.append_nil]; exact List.mem_cons_of_mem _ (List.mem_cons_of_mem _ (mem_owned.2 ⟨y, hy, hk⟩)))).2 ?_) (h3 y hy)
    simp only [List.mem_singleton]
    rintro rfl
    exact hnd.2.1 (mem_owned.2 ⟨y, hy, hk⟩)
  have hperm : (owned [qr q, bxr pb c cap qs]).Perm (bxr pb c cap (q :: qs)).own := by
    simp only [owned, bxr, List.flatMap_cons, List.flatMap_nil, List.append_nil, List.map_cons]
    exact (List.perm_middle.trans (List.Perm.cons _ List.perm_middle))
  refine ⟨he, hst.os, hst.tape, hst.output, hst.size, fun k hk hkT => hst.same k hk (fun h => hkT (by rw [List.mem_singleton.1 h]; exact hcT)), fun x hx => ?_, fun k hk => ?_, hperm.nodup_iff.2 hn⟩
  · rcases List.mem_cons.1 hx with rfl | hx
    · exact hkeep _ (by simp)
    · obtain rfl := List.mem_singleton.1 hx
      refine ⟨?_, ⟨s, r + 1, hc⟩, fun y hy => hkeep y (by simp only [List.map_cons, List.mem_cons]; exact .inr hy)⟩
      rw [hst.same pb (hI.mine pb (by simp [owned, bxr])).2 (by simpa using hnd.1.1)]; exact h1
  · have hk2 := hperm.subset hk
    exact ⟨.inr hk2, Nat.lt_of_lt_of_le (hI.mine k (by simpa [owned] using hk2)).2 hst.size⟩
end Go.Proofs.Ytckoiabainpamaa
