/-
  Rows of equal length, one behind the other; the elements of an owned slice. No condition.
-/
import Derived.Test.YtaeapoidigglnaaSl
import Derived.Test.YtaeapoidigglnaaIntMem
import Derived.Test.YtaeapoidigglnaaFamG
namespace Go.Proofs.Ytaeapoidigglnaa
open Go.RowKit
def rl {α : Type} (f : Nat → List α) (n : Nat) : List α := (List.range n).flatMap f
theorem rl_succ {α : Type} (f : Nat → List α) (n : Nat) : rl f (n + 1) = rl f n ++ f n := by simp [rl, List.range_succ]
theorem rl_congr {α : Type} {f g : Nat → List α} {n : Nat} (h : ∀ k, k < n → f k = g k) : rl f n = rl g n := by
  unfold rl
  induction n with
  | zero => rfl
  | succ n ih => rw [List.range_succ, List.flatMap_append, List.flatMap_append, ih (fun k hk => h k (by omega))]; simp [h n (by omega)]
theorem rl_len {α : Type} {f : Nat → List α} {q : Nat} {n : Nat} (hq : ∀ k, k < n → (f k).length = q) : (rl f n).length = n * q := by
  induction n with
  | zero => simp [rl]
  | succ n ih => rw [rl_succ, List.length_append, ih (fun k hk => hq k (by omega)), hq n (by omega), Nat.add_mul, Nat.one_mul]
theorem rl_at {α : Type} {f : Nat → List α} {q n k : Nat} (hq : ∀ k, k < n → (f k).length = q) (h : k < n) : ((rl f n).drop (k * q)).take q = f k := by
  induction n with
  | zero => omega
  | succ n ih =>
    rw [rl_succ]
    have hq' : ∀ k, k < n → (f k).length = q := fun k hk => hq k (by omega)
    have hl := rl_len hq'
    by_cases hk : k < n
    · have : k * q + q ≤ n * q := by rw [← Nat.succ_mul]; exact Nat.mul_le_mul_right _ hk
      rw [List.drop_append_of_le_length (by omega), List.take_append_of_le_length (by rw [List.length_drop]; omega)]
      exact ih hq' hk
    · obtain rfl : k = n := by omega
      rw [List.drop_append_of_le_length (by omega), List.drop_of_length_le (by omega), List.nil_append, ← hq k (by omega), List.take_length]
theorem rl_put {α : Type} {f g : Nat → List α} {q n k : Nat} (hq : ∀ k, k < n → (f k).length = q) (h : k < n) {v : List α} (hv : v.length = q) (hg : ∀ j, g j = if j = k then v else f j) : (rl f n).take (k * q) ++ v ++ (rl f n).drop (k * q + v.length) = rl g n := by
  induction n with
  | zero => omega
  | succ n ih =>
    rw [rl_succ, rl_succ]
    have hq' : ∀ k, k < n → (f k).length = q := fun k hk => hq k (by omega)
    have hl := rl_len hq'
    by_cases hk : k < n
    · have : k * q + q ≤ n * q := by rw [← Nat.succ_mul]; exact Nat.mul_le_mul_right _ hk
      rw [List.take_append_of_le_length (by omega), List.drop_append_of_le_length (by omega), hg n, if_neg (by omega), ← ih hq' hk]
      simp only [List.append_assoc]
    · obtain rfl : k = n := by omega
      rw [hg k, if_pos rfl, List.take_append_of_le_length (by omega), List.take_of_length_le (by omega), List.drop_of_length_le (by rw [List.length_append, hq k (by omega)]; omega), List.append_nil]
      congr 1
      exact rl_congr fun j hj => by rw [hg j, if_neg (by omega)]
theorem rl_more {α : Type} {f g : Nat → List α} {n : Nat} {v : List α} (hg : ∀ j, j < n → g j = f j) (hv : g n = v) : rl f n ++ v = rl g (n + 1) := by
  rw [rl_succ, hv, rl_congr hg]
/-- as cells -/
theorem rl_splice {f g : Nat → List Value} {q n k off : Nat} (hq : ∀ k, k < n → (f k).length = q) (ho : off = k * q) (h : k < n) {v : List Value} (hv : v.length = q) (hg : ∀ j, g j = if j = k then v else f j) : splice (rl f n) off v = rl g n := by
  subst ho; exact rl_put hq h hv hg
theorem rl_sub {f : Nat → List Int} {q n k off : Nat} (hq : ∀ k, k < n → (f k).length = q) (ho : off = k * q) (h : k < n) : sub (rl f n) off q = f k := by
  subst ho; exact rl_at hq h
theorem rl_spl {f g : Nat → List Int} {q n k off : Nat} (hq : ∀ k, k < n → (f k).length = q) (ho : off = k * q) (h : k < n) {v : List Int} (hv : v.length = q) (hg : ∀ j, g j = if j = k then v else f j) : spl (rl f n) off v = rl g n := by
  subst ho; exact rl_put hq h hv hg
theorem rl_take {f : Nat → List Value} {q n k off : Nat} (hq : ∀ k, k < n → (f k).length = q) (ho : off = k * q) (h : k < n) : ((rl f n).drop off).take q = f k := by
  subst ho; exact rl_at hq h
theorem rl_one {f : Nat → Value} {n k : Nat} (h : k < n) : (rl (fun k => [f k]) n)[k]? = some (f k) := by
  have := rl_at (f := fun k => [f k]) (q := 1) (fun _ _ => rfl) h
  rw [Nat.mul_one] at this
  have h2 : ((rl (fun k => [f k]) n).drop k).take 1 = [f k] := this
  have := congrArg (fun l => l[0]?) h2
  simpa using this
section
variable {P : Program} {ops : Array Oper} {Q : Exit → Act → World → Prop} {a : Act} {rest : List Oper} {T : List Nat} {w0 w : World} {m m' : List Res} {dst : Option Tmp} {ty : TypeId} {pos : String} {af : Array Edge}
theorem osl_cells {e size n n' c g off : Nat} {xs : List Value} (h : w.ownsRow 0 e size (.slice (some ⟨g, off, none⟩) n' c) n xs) : off = 0 ∧ n' = n ∧ ∃ cur : List Value, w.heap[g]? = some (.cells cur.toArray e (0, 0)) ∧ n ≤ c ∧ c ≤ maxLen ∧ cur.length = c * size ∧ xs.length = n * size ∧ cur.take (n * size) = xs := by
  rcases h.2 with ⟨hv, _⟩ | ⟨g', cap, cur, hv, _, hg, h1, h2, h3, h4⟩
  · cases hv
  · simp only [Value.slice.injEq, Option.some.injEq, Addr.mk.injEq] at hv
    obtain ⟨⟨rfl, rfl, _⟩, rfl, rfl⟩ := hv
    exact ⟨rfl, rfl, cur.toList, by simpa using hg, h1, h2, by simpa using h3, h.1, h4⟩
theorem yld_load_osa {x : Operand} {t k g g0 off n c : Nat} {e size : Nat} {xs vs : List Value} {gd : Option (Nat × Bool)} (hI : Inv T w0 w m) (hx : a.eval x = .pointer (some ⟨g, off, none⟩)) (hm : osl e size (.slice (some ⟨g, g0, none⟩) n c) n xs ∈ m) (hT : AggT P t k) (hl : off + k ≤ xs.length) (hv : (xs.drop off).take k = vs) :
    Yld P ⟨dst, .load t x, ty, pos, af, gd⟩ a w (.agg vs.toArray) := by
  obtain ⟨_, _, cur, hb, h1, h2, h3, h4, h5⟩ := osl_cells (hI.sat _ hm)
  have hle : xs.length ≤ cur.length := by rw [← h5, List.length_take]; exact Nat.min_le_right _ _
  unfold Yld execOp
  simp only [hx, Instr.loadAt, Instr.sureAddr, Sem.run_bind, Sem.run_pure, Result.andThen_ok, run_load_agg hT hb off (by omega)]
  have : (cur.drop off).take k = vs := by
    rw [← hv, ← h5, List.drop_take, List.take_take, Nat.min_eq_left (by omega)]
  rw [this]
theorem yld_load_os1 {x : Operand} {t g g0 off n c : Nat} {e size : Nat} {xs : List Value} {v : Value} {gd : Option (Nat × Bool)} (hI : Inv T w0 w m) (hx : a.eval x = .pointer (some ⟨g, off, none⟩)) (hm : osl e size (.slice (some ⟨g, g0, none⟩) n c) n xs ∈ m) (hT : OneT P t) (hv : xs[off]? = some v) :
    Yld P ⟨dst, .load t x, ty, pos, af, gd⟩ a w v := by
  obtain ⟨_, _, cur, hb, h1, h2, h3, h4, h5⟩ := osl_cells (hI.sat _ hm)
  have hc : cur[off]? = some v := by
    rw [← h5, List.getElem?_take] at hv
    split at hv
    · exact hv
    · cases hv
  unfold Yld execOp
  simp only [hx, Instr.loadAt, Instr.sureAddr, Sem.run_bind, Sem.run_pure, Result.andThen_ok, run_load_one hT hb off hc]
theorem wpList_load_osa {x : Operand} {t k g g0 off n c : Nat} {e size : Nat} {xs vs : List Value} (hI : Inv T w0 w m) (hx : a.eval x = .pointer (some ⟨g, off, none⟩)) (hm : osl e size (.slice (some ⟨g, g0, none⟩) n c) n xs ∈ m) (hT : AggT P t k) (hl : off + k ≤ xs.length) (hv : (xs.drop off).take k = vs)
    (K : wpList P ops Q rest (a.put dst (.agg vs.toArray)) w) : wpList P ops Q (⟨dst, .load t x, ty, pos, af, none⟩ :: rest) a w := wpList_yld (yld_load_osa hI hx hm hT hl hv) K
theorem wpList_load_os1 {x : Operand} {t g g0 off n c : Nat} {e size : Nat} {xs : List Value} {v : Value} (hI : Inv T w0 w m) (hx : a.eval x = .pointer (some ⟨g, off, none⟩)) (hm : osl e size (.slice (some ⟨g, g0, none⟩) n c) n xs ∈ m) (hT : OneT P t) (hv : xs[off]? = some v)
    (K : wpList P ops Q rest (a.put dst v) w) : wpList P ops Q (⟨dst, .load t x, ty, pos, af, none⟩ :: rest) a w := wpList_yld (yld_load_os1 hI hx hm hT hv) K
/-- a store into an owned slice -/
theorem wpList_store_os {x y : Operand} {t k g g0 off n c : Nat} {e size : Nat} {xs vs ys : List Value} (hI : Inv T w0 w m) (hx : a.eval x = .pointer (some ⟨g, off, none⟩)) (hv : (a.eval y).cells = vs.toArray) (hu : Upd (osl e size (.slice (some ⟨g, g0, none⟩) n c) n xs) (osl e size (.slice (some ⟨g, g0, none⟩) n c) n ys) m m')
    (hk : (P.info? t).map (·.size) = some k) (hl : vs.length = k) (hoff : off + k ≤ xs.length) (h1 : ∀ u ∈ vs, u.oneCell' = true) (hys : splice xs off vs = ys)
    (K : ∀ w', Inv T w0 w' m' → wpList P ops Q rest (a.put dst undef) w') : wpList P ops Q (⟨dst, .store t x y, ty, pos, af, none⟩ :: rest) a w :=
  wpList_plain rfl fun K' hK => by
    have hs : w.ownsRow 0 e size (.slice (some ⟨g, g0, none⟩) n c) n xs := by
      obtain ⟨m1, m2, rfl, _⟩ := hu.split
      exact hI.sat (osl e size (.slice (some ⟨g, g0, none⟩) n c) n xs) (by simp)
    obtain ⟨h00, _, cur, hb, b1, b2, b3, b4, b5⟩ := osl_cells hs
    subst h00
    have hle : xs.length ≤ cur.length := by rw [← b5, List.length_take]; exact Nat.min_le_right _ _
    obtain ⟨w', hr, hst, hsz, hh⟩ := run_storeVar (P := P) hk vs hv hl h1 hb off (by omega)
    unfold Oper.wp execOp
    simp only [hx, Instr.storeAt, Instr.sureAddr, Sem.run_bind, Sem.run_pure, Result.andThen_ok, hr]
    refine hK _ _ (K w' (hI.upd hu ?_ ?_ (fun k hk => .inl hk) (by simp [osl, Value.ownBlock])))
    · exact hst.mono (fun k hk => by simpa [osl, Value.ownBlock] using hk)
    · have e1 : (splice cur off vs).length = cur.length := by simp [splice]; omega
      have e2 : (splice cur off vs).take (n * size) = ys := by
        rw [← hys, ← b5]
        refine List.ext_getElem? fun i => ?_
        unfold splice
        simp only [List.getElem?_take, List.getElem?_append, List.length_append, List.length_take, List.getElem?_drop]
        have hm1 : min off cur.length = off := by omega
        have hm2 : min off (min (n * size) cur.length) = off := by omega
        simp only [hm1, hm2]
        by_cases hi : i < n * size
        · rw [if_pos hi]
          by_cases h2 : i < off + vs.length
          · rw [if_pos h2, if_pos h2]
            by_cases h3 : i < off
            · simp only [if_pos h3, if_pos hi]
            · simp only [if_neg h3]
          · rw [if_neg h2, if_neg h2, if_pos (by omega)]
        · rw [if_neg hi, if_neg (by omega), if_neg (by omega)]
      refine ⟨?_, .inr ⟨g, c, _, rfl, Nat.zero_le _, hh, b1, b2, by simpa [e1] using b3, by simpa using e2⟩⟩
      rw [← e2, List.length_take, e1, b3, Nat.min_eq_left (Nat.mul_le_mul_right _ b1)]
theorem yld_load_ia {x : Operand} {t n b off : Nat} {e : TypeId} {zs vs : List Int} {gd : Option (Nat × Bool)} (hI : Inv T w0 w m) (hx : a.eval x = .pointer (some ⟨b, off, none⟩)) (hm : ib b e zs ∈ m) (hT : AggT P t n) (hl : off + n ≤ zs.length) (hv : sub zs off n = vs) :
    Yld P ⟨dst, .load t x, ty, pos, af, gd⟩ a w (ia vs) := by
  have h := yld_load_agg (dst := dst) (ty := ty) (pos := pos) (af := af) (g := gd) hI hx hm hT (by simpa using hl)
  have e : (((zs.map (Value.int .i64)).drop off).take n) = vs.map (Value.int .i64) := by rw [← hv]; simp [sub, List.map_take, List.map_drop]
  rw [e] at h
  exact h
theorem yld_load_i1 {x : Operand} {t b off : Nat} {e : TypeId} {zs : List Int} {v : Int} {gd : Option (Nat × Bool)} (hI : Inv T w0 w m) (hx : a.eval x = .pointer (some ⟨b, off, none⟩)) (hm : ib b e zs ∈ m) (hT : OneT P t) (hl : off < zs.length) (hv : gi zs off = v) :
    Yld P ⟨dst, .load t x, ty, pos, af, gd⟩ a w (.int .i64 v) := by
  refine yld_load_one hI hx hm hT ?_
  rw [List.getElem?_map, List.getElem?_eq_getElem hl]
  simp [← hv, gi, List.getElem?_eq_getElem hl]
theorem wpList_load_iav {x : Operand} {t n b off : Nat} {e : TypeId} {zs vs : List Int} (hI : Inv T w0 w m) (hx : a.eval x = .pointer (some ⟨b, off, none⟩)) (hm : ib b e zs ∈ m) (hT : AggT P t n) (hl : off + n ≤ zs.length) (hv : sub zs off n = vs)
    (K : wpList P ops Q rest (a.put dst (ia vs)) w) : wpList P ops Q (⟨dst, .load t x, ty, pos, af, none⟩ :: rest) a w := wpList_yld (yld_load_ia hI hx hm hT hl hv) K
/-- a store of numbers, with what comes of it -/
theorem wpList_store_iav {x y : Operand} {t n b off : Nat} {e : TypeId} {zs vs ys : List Int} (hI : Inv T w0 w m) (hx : a.eval x = .pointer (some ⟨b, off, none⟩)) (hv : a.eval y = ia vs) (hu : Upd (ib b e zs) (ib b e ys) m m') (hT : AggT P t n) (hl : vs.length = n) (hoff : off + n ≤ zs.length) (hys : spl zs off vs = ys)
    (K : ∀ w', Inv T w0 w' m' → wpList P ops Q rest (a.put dst undef) w') : wpList P ops Q (⟨dst, .store t x y, ty, pos, af, none⟩ :: rest) a w := by
  subst hys
  exact wpList_store_ia hI hx hv hu hT hl hoff K
end
end Go.Proofs.Ytaeapoidigglnaa
