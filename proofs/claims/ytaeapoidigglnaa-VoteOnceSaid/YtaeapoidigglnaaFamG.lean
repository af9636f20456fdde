/-
  Resources that hold others: a call that turns one, one that falls into two, families. No condition.
-/
import Derived.Test.YtaeapoidigglnaaRules
namespace Go.Proofs.Ytaeapoidigglnaa
open Go.RowKit
section
variable {T : List Nat} {w0 w w' : World} {m m' : List Res} {r r' x : Res}
/-- a call that turns one resource that is owned here -/
theorem Inv.on (h : Inv T w0 w m) (hJ : Inv r.own w w' [r']) (hu : Upd r r' m m') : Inv T w0 w' m' := by
  refine h.upd hu hJ.end_ (hJ.sat _ (by simp)) (fun k hk => ?_) ?_
  · have := hJ.mine k (by simpa [owned] using hk)
    rcases this.1 with h1 | h1
    · exact .inr ⟨h1, this.2⟩
    · exact .inl h1
  · have := hJ.apart
    simpa [owned] using this
/-- a resource falls into two -/
theorem Inv.part (h : Inv T w0 w m) (hu : Upd r r' m m') (hr : r'.sat w) (hx : x.sat w) (hp : (x.own ++ r'.own).Perm r.own) : Inv T w0 w (x :: m') := by
  obtain ⟨m1, m2, rfl, rfl⟩ := hu.split
  have hperm : (owned (x :: (m1 ++ r' :: m2))).Perm (owned (m1 ++ r :: m2)) := by
    simp only [owned_append, owned_cons]
    refine List.Perm.trans ?_ (List.Perm.append_left (owned m1) (List.Perm.append_right (owned m2) hp))
    rw [← List.append_assoc x.own]
    refine (List.Perm.append_right _ List.perm_append_comm).trans ?_
    rw [List.append_assoc, List.append_assoc]
  refine ⟨h.os, h.tape, h.output, h.size, h.old, fun y hy => ?_, fun k hk => h.mine k (hperm.subset hk), hperm.nodup_iff.2 h.apart⟩
  simp only [List.mem_cons, List.mem_append] at hy
  rcases hy with rfl | hy | rfl | hy
  · exact hx
  · exact h.sat _ (by simp [hy])
  · exact hr
  · exact h.sat _ (by simp [hy])
theorem Upd.mid (r r' : Res) (m2 : List Res) : ∀ m1 : List Res, Upd r r' (m1 ++ r :: m2) (m1 ++ r' :: m2)
  | [] => Upd.here
  | _ :: m1 => Upd.there (Upd.mid r r' m2 m1)
/-- two at once -/
def two (x r' : Res) : Res := ⟨x.own ++ r'.own, fun w => x.sat w ∧ r'.sat w, fun w w' h hs => ⟨x.loc w w' (fun k hk => h k (List.mem_append.2 (.inl hk))) hs.1, r'.loc w w' (fun k hk => h k (List.mem_append.2 (.inr hk))) hs.2⟩⟩
/-- a call that takes a part of a resource out -/
theorem Inv.on2 (h : Inv T w0 w m) (hJ : Inv r.own w w' [x, r']) (hu : Upd r r' m m') : Inv T w0 w' (x :: m') := by
  obtain ⟨m1, m2, rfl, rfl⟩ := hu.split
  have hJ2 : Inv r.own w w' [two x r'] := ⟨hJ.os, hJ.tape, hJ.output, hJ.size, hJ.old, fun y hy => by
    obtain rfl := List.mem_singleton.1 hy
    exact ⟨hJ.sat _ (by simp), hJ.sat _ (by simp)⟩, fun k hk => hJ.mine k (by simpa [owned, two] using hk), by simpa [owned, two] using hJ.apart⟩
  have h2 := h.on hJ2 (Upd.mid r (two x r') m2 m1)
  have hs := h2.sat (two x r') (by simp)
  exact h2.part (Upd.mid (two x r') r' m2 m1) hs.2 hs.1 (List.Perm.refl _)
end
theorem Inv.nd {T : List Nat} {w0 w : World} {m : List Res} {r : Res} (h : Inv T w0 w m) (hm : r ∈ m) : r.own.Nodup := by
  obtain ⟨m1, m2, rfl⟩ := List.append_of_mem hm
  have := h.apart
  rw [owned_append, owned_cons, List.nodup_append, List.nodup_append] at this
  exact this.2.1.1
section
variable {T : List Nat} {w0 w w' : World} {m m' : List Res} {r r' x : Res}
/-- what the others own is left alone -/
theorem Inv.at_ (h : Inv T w0 w m) (hm : r ∈ m) : Inv r.own w w [r] := by
  refine ⟨rfl, rfl, rfl, Nat.le_refl _, fun _ _ _ => rfl, fun y hy => ?_, fun k hk => ?_, ?_⟩
  · obtain rfl := List.mem_singleton.1 hy; exact h.sat _ hm
  · have hk2 : k ∈ r.own := by simpa [owned] using hk
    exact ⟨.inr hk2, (h.mine k (mem_owned.2 ⟨r, hm, hk2⟩)).2⟩
  · simpa [owned] using h.nd hm
/-- the same blocks in another order, or taken together -/
theorem Inv.turn (h : Inv T w0 w m) (hs : (∀ y ∈ m, y.sat w) → ∀ y ∈ m', y.sat w) (hp : (owned m').Perm (owned m)) : Inv T w0 w m' :=
  ⟨h.os, h.tape, h.output, h.size, h.old, hs h.sat, fun k hk => h.mine k (hp.subset hk), hp.nodup_iff.2 h.apart⟩
theorem Inv.untwo (h : Inv T w0 w (two x r :: m)) : Inv T w0 w (x :: r :: m) :=
  h.turn (fun hs y hy => by
    simp only [List.mem_cons] at hy
    rcases hy with rfl | rfl | hy
    · exact (hs (two y r) (by simp)).1
    · exact (hs (two x y) (by simp)).2
    · exact hs _ (by simp [hy])) (by simp [owned, two])
theorem Inv.totwo (h : Inv T w0 w (x :: r :: m)) : Inv T w0 w (two x r :: m) :=
  h.turn (fun hs y hy => by
    simp only [List.mem_cons] at hy
    rcases hy with rfl | hy
    · exact ⟨hs _ (by simp), hs _ (by simp)⟩
    · exact hs _ (by simp [hy])) (by simp [owned, two])
/-- the resources of a family -/
def fam (I : List Nat) (f : Nat → Res) : Res :=
  ⟨owned (I.map f), fun w => ∀ i ∈ I, (f i).sat w, fun w w' h hs i hi => (f i).loc w w' (fun k hk => h k (mem_owned.2 ⟨f i, List.mem_map.2 ⟨i, hi, rfl⟩, hk⟩)) (hs i hi)⟩
theorem fam_perm {I J : List Nat} (f : Nat → Res) (h : I.Perm J) : (fam I f).own.Perm (fam J f).own := by
  show (owned (I.map f)).Perm (owned (J.map f))
  exact (h.map f).flatMap_right _
theorem Inv.pull (h : Inv T w0 w m) {I : List Nat} {f : Nat → Res} {i : Nat} (hi : i ∈ I) (hu : Upd (fam I f) (fam (I.erase i) f) m m') : Inv T w0 w (f i :: m') := by
  have hs : (fam I f).sat w := h.sat (fam I f) (by obtain ⟨m1, m2, rfl, rfl⟩ := hu.split; simp)
  refine h.part hu (fun j hj => hs j (List.mem_of_mem_erase hj)) (hs i hi) ?_
  exact (fam_perm f (List.perm_cons_erase hi)).symm
theorem Inv.push (h : Inv T w0 w (r :: m)) {I : List Nat} {f g : Nat → Res} {i : Nat} (hn : I.Nodup) (hi : i ∈ I) (hr : r = g i) (hg : ∀ j ∈ I, j ≠ i → g j = f j) (hu : Upd (fam (I.erase i) f) (fam I g) m m') : Inv T w0 w m' := by
  subst hr
  obtain ⟨m1, m2, rfl, rfl⟩ := hu.split
  have he : (fam (I.erase i) f) = fam (I.erase i) g := by
    have e : ∀ j ∈ I.erase i, f j = g j := fun j hj => by
      have := hn.mem_erase_iff.1 hj
      exact (hg j this.2 this.1).symm
    unfold fam
    congr 1
    · rw [List.map_congr_left e]
    · funext w
      refine propext ⟨fun hh j hj => ?_, fun hh j hj => ?_⟩
      · rw [← e j hj]; exact hh j hj
      · rw [e j hj]; exact hh j hj
  rw [he] at h
  refine h.turn (fun hs y hy => ?_) ?_
  · simp only [List.mem_append, List.mem_cons] at hy
    rcases hy with hy | rfl | hy
    · exact hs _ (by simp [hy])
    · intro j hj
      by_cases hji : j = i
      · rw [hji]; exact hs (g i) (by simp)
      · exact hs (fam (I.erase i) g) (by simp) j (hn.mem_erase_iff.2 ⟨hji, hj⟩)
    · exact hs _ (by simp [hy])
  · have hp : ((g i).own ++ (fam (I.erase i) g).own).Perm (fam I g).own := (fam_perm g (List.perm_cons_erase hi)).symm
    simp only [owned_append, owned_cons]
    refine List.Perm.trans ?_ (show ((g i).own ++ owned m1 ++ ((fam (I.erase i) g).own ++ owned m2)).Perm _ by rw [List.append_assoc])
    refine List.Perm.trans ?_ (List.Perm.append_right _ List.perm_append_comm)
    rw [List.append_assoc, ← List.append_assoc (g i).own]
    exact List.Perm.append_left _ (List.Perm.append_right _ hp.symm)
/-- a family of one more -/
theorem Inv.more (h : Inv T w0 w (r :: m)) {I : List Nat} {f g : Nat → Res} {i : Nat} (hi : i ∉ I) (hr : r = g i) (hg : ∀ j ∈ I, g j = f j) (hu : Upd (fam I f) (fam (I ++ [i]) g) m m') : Inv T w0 w m' := by
  subst hr
  obtain ⟨m1, m2, rfl, rfl⟩ := hu.split
  have hn : ∀ j ∈ I, j ≠ i := fun j hj e => hi (e ▸ hj)
  refine h.turn (fun hs y hy => ?_) ?_
  · simp only [List.mem_append, List.mem_cons] at hy
    rcases hy with hy | rfl | hy
    · exact hs _ (by simp [hy])
    · intro j hj
      simp only [List.mem_append, List.mem_singleton] at hj
      rcases hj with hj | rfl
      · rw [hg j hj]; exact hs (fam I f) (by simp) j hj
      · exact hs (g j) (by simp)
    · exact hs _ (by simp [hy])
  · have e : (fam (I ++ [i]) g).own = (fam I f).own ++ (g i).own := by
      show owned ((I ++ [i]).map g) = owned (I.map f) ++ _
      rw [List.map_append, owned_append, List.map_congr_left hg]
      simp [owned]
    simp only [owned_append, owned_cons, e]
    refine List.Perm.trans ?_ (show ((g i).own ++ owned m1 ++ ((fam I f).own ++ owned m2)).Perm _ by rw [List.append_assoc])
    refine List.Perm.trans ?_ (List.Perm.append_right _ List.perm_append_comm)
    rw [List.append_assoc, List.append_assoc]
    refine List.Perm.append_left _ ?_
    rw [← List.append_assoc (g i).own, ← List.append_assoc (fam I f).own]
    exact List.Perm.append_right _ List.perm_append_comm
theorem Inv.fam0 (h : Inv T w0 w m) (f : Nat → Res) : Inv T w0 w (fam [] f :: m) :=
  h.turn (fun hs y hy => by
    rcases List.mem_cons.1 hy with rfl | hy
    · intro j hj; simp at hj
    · exact hs _ hy) (by simp [owned, fam])
end
/-- a function turned at one place -/
def upf {α : Type} (f : Nat → α) (i : Nat) (v : α) : Nat → α := fun j => if j = i then v else f j
theorem upf_at {α : Type} (f : Nat → α) (i : Nat) (v : α) : upf f i v i = v := if_pos rfl
theorem upf_ne {α : Type} (f : Nat → α) {i j : Nat} (v : α) (h : j ≠ i) : upf f i v j = f j := if_neg h
theorem Inv.swap2 {T : List Nat} {w0 w : World} {x y : Res} {m : List Res} (h : Inv T w0 w (x :: y :: m)) : Inv T w0 w (y :: x :: m) :=
  h.turn (fun hs z hz => hs z (by simp only [List.mem_cons] at hz ⊢; rcases hz with h | h | h <;> simp [h])) (by
    simp only [owned_cons, ← List.append_assoc]
    exact List.Perm.append_right _ List.perm_append_comm)
/-- the first goes to the end -/
theorem Inv.toEnd {T : List Nat} {w0 w : World} {x : Res} {m : List Res} (h : Inv T w0 w (x :: m)) : Inv T w0 w (m ++ [x]) :=
  h.turn (fun hs z hz => hs z (by simp only [List.mem_append, List.mem_cons, List.not_mem_nil, or_false] at hz ⊢; exact hz.symm)) (by
    simp only [owned_cons, owned_append]
    refine List.Perm.trans ?_ List.perm_append_comm
    simp [owned])
end Go.Proofs.Ytaeapoidigglnaa
