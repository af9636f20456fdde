/-
  A row of the call's own that is only read from now on (what is left of it). No condition.
-/
import Derived.Test.YtckoiabainpamaaBoxClr
import Derived.Test.YtckoiabainpamaaBoxTurns
namespace Go.Proofs.Ytckoiabainpamaa
open Go.RowKit
set_option maxRecDepth 100000
/-- a row that is only read -/
def rwr (v : Value) (xs : List Value) : Res :=
  ⟨v.ownBlock.toList, fun w => ∃ a c, v = .slice a xs.length c ∧ xs.length ≤ c ∧ c ≤ maxLen ∧ Rd w a xs, fun w w' h hs => by
    obtain ⟨a, c, rfl, h1, h2, hr⟩ := hs
    refine ⟨a, c, rfl, h1, h2, fun j u hj => ?_⟩
    obtain ⟨b, off, rfl, hc⟩ := hr j u hj
    refine ⟨b, off, rfl, ?_⟩
    have := h b (by simp [Value.ownBlock])
    simpa [World.cell?, this] using hc⟩
section
variable {T : List Nat} {w0 w w' : World} {m m' : List Res} {r r' x : Res}
/-- a resource is read as another one of the same blocks -/
theorem Inv.weak (h : Inv T w0 w m) (hu : Upd r r' m m') (hs : r.sat w → r'.sat w) (ho : r'.own = r.own) : Inv T w0 w m' := by
  obtain ⟨m1, m2, rfl, rfl⟩ := hu.split
  have hown : owned (m1 ++ r' :: m2) = owned (m1 ++ r :: m2) := by simp only [owned_append, owned_cons, ho]
  refine ⟨h.os, h.tape, h.output, h.size, h.old, fun y hy => ?_, fun k hk => h.mine k (hown ▸ hk), hown ▸ h.apart⟩
  simp only [List.mem_append, List.mem_cons] at hy
  rcases hy with hy | rfl | hy
  · exact h.sat _ (by simp [hy])
  · exact hs (h.sat r (by simp))
  · exact h.sat _ (by simp [hy])
theorem Inv.orr (h : Inv T w0 w m) {e n c : Nat} {a : Option Addr} {xs : List Value} (hn : xs.length = n) (hu : Upd (osl e 1 (.slice a n c) n xs) (rwr (.slice a n c) xs) m m') : Inv T w0 w m' := by
  refine h.weak hu (fun hs => ?_) rfl
  subst hn
  refine ⟨a, c, rfl, ?_, ?_, osl_rd hs⟩
  · rcases hs.2 with ⟨hv, h0⟩ | ⟨g, cap, cur, hv, _, _, h1, _⟩
    · simp only [Value.slice.injEq] at hv; omega
    · simp only [Value.slice.injEq] at hv; omega
  · rcases hs.2 with ⟨hv, h0⟩ | ⟨g, cap, cur, hv, _, _, _, h1, _⟩
    · simp only [Value.slice.injEq] at hv; rw [hv.2.2]; exact Nat.zero_le _
    · simp only [Value.slice.injEq] at hv; omega
theorem Inv.orr_tail (h : Inv T w0 w m) {n c : Nat} {g off : Nat} {x : Value} {xs : List Value} (hu : Upd (rwr (.slice (some ⟨g, off, none⟩) (n + 1) c) (x :: xs)) (rwr (.slice (some ⟨g, off + 1, none⟩) n (c - 1)) xs) m m') : Inv T w0 w m' := by
  refine h.weak hu (fun hs => ?_) rfl
  obtain ⟨a, c', hv, h1, h2, hr⟩ := hs
  simp only [Value.slice.injEq, List.length_cons] at hv h1
  obtain ⟨rfl, hn, rfl⟩ := hv
  refine ⟨_, _, by rw [show n = xs.length by omega], by omega, by omega, fun j u hj => ?_⟩
  obtain ⟨b, o, he, hc⟩ := hr (j + 1) u (by simpa using hj)
  simp only [Option.some.injEq, Addr.mk.injEq] at he
  obtain ⟨rfl, rfl, _⟩ := he
  exact ⟨_, _, rfl, by rw [show off + 1 + j = off + (j + 1) by omega]; exact hc⟩
theorem Inv.orr_rd (h : Inv T w0 w m) {n c : Nat} {a : Option Addr} {xs : List Value} (hm : rwr (.slice a n c) xs ∈ m) : Rd w a xs := by
  obtain ⟨a', c', hv, _, _, hr⟩ := h.sat _ hm
  simp only [Value.slice.injEq] at hv
  rw [hv.1]; exact hr
theorem Inv.orr_le (h : Inv T w0 w m) {n c : Nat} {a : Option Addr} {xs : List Value} (hm : rwr (.slice a n c) xs ∈ m) : n = xs.length ∧ xs.length ≤ c ∧ c ≤ maxLen := by
  obtain ⟨a', c', hv, h1, h2, hr⟩ := h.sat _ hm
  simp only [Value.slice.injEq] at hv
  exact ⟨hv.2.1, by rw [hv.2.2]; exact h1, by rw [hv.2.2]; exact h2⟩
theorem Inv.orr_some (h : Inv T w0 w m) {n c : Nat} {a : Option Addr} {x : Value} {xs : List Value} (hm : rwr (.slice a n c) (x :: xs) ∈ m) : ∃ g off, a = some ⟨g, off, none⟩ ∧ w.cell? ⟨g, off, none⟩ = some x := by
  obtain ⟨g, off, ha, hc⟩ := h.orr_rd hm 0 x rfl
  exact ⟨g, off, ha, hc⟩
theorem Inv.nilOrr (h : Inv T w0 w m) : Inv T w0 w (rwr (.slice none 0 0) [] :: m) :=
  (h.nilSl 9 1).orr (xs := []) rfl Upd.here
end
/-- an argument: calls, each a kind and its bytes -/
structure CArg (w : World) (a : Option Addr) (len : Nat) (rk : Nat → Int) (ra : Nat → Option Addr) (rc : Nat → Nat) (rb : Nat → List UInt8) : Prop where
  reach : len ≤ 140737488351232
  row : ∀ i, i < len → Rd w (ra i) ((rb i).map bv) ∧ (rb i).length ≤ 140737488351232 ∧ ∃ b off, a = some ⟨b, off, none⟩ ∧ CellsAt w b (off + i * 2) [.int .i64 (rk i), .slice (ra i) (rb i).length (rc i)]
theorem two_of {α : Type} : ∀ {l : List α}, l.length = 2 → ∃ u v, l = [u, v]
  | [u, v], _ => ⟨u, v, rfl⟩
theorem SlArg.carg {w : World} {a : Option Addr} {len c : Nat} {row : Nat → List Value} (h : SlArg w a len c [pInt, pSlice [pU8]] row) : ∃ rk ra rc rb, CArg w a len rk ra rc rb := by
  have key : ∀ i, ∃ q : Int × Option Addr × Nat × List UInt8, i < len → Rd w q.2.1 (q.2.2.2.map bv) ∧ q.2.2.2.length ≤ 140737488351232 ∧ ∃ b off, a = some ⟨b, off, none⟩ ∧ CellsAt w b (off + i * 2) [.int .i64 q.1, .slice q.2.1 q.2.2.2.length q.2.2.1] := by
    intro i
    by_cases hi : i < len
    · obtain ⟨ha, b, off, h1, h2⟩ := h.row i hi
      obtain ⟨u, v, hrow⟩ : ∃ u v, row i = [u, v] := two_of ha.length
      rw [hrow] at ha h2
      have hu : pInt w u := ha.1
      have hvv : pSlice [pU8] w v := ha.2.1
      obtain ⟨z, hzz⟩ := hu
      have hz : u = .int .i64 z := hzz.1
      clear hzz
      obtain ⟨a', n, c', row', hv, hs⟩ := hvv
      obtain ⟨bs, hl, hr⟩ := hs.bytes
      refine ⟨(z, a', c', bs), fun _ => ⟨hr, by rw [hl]; exact Nat.le_trans hs.le hs.reach, b, off, h1, ?_⟩⟩
      rw [hv, hz] at h2
      rw [hl]
      exact h2
    · exact ⟨(0, none, 0, []), fun h => absurd h hi⟩
  exact ⟨fun i => (key i).choose.1, fun i => (key i).choose.2.1, fun i => (key i).choose.2.2.1, fun i => (key i).choose.2.2.2, Nat.le_trans h.le h.reach, fun i hi => (key i).choose_spec hi⟩
end Go.Proofs.Ytckoiabainpamaa
