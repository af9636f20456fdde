/-
  The memory of VoteOnce: votes, vows, takings, acceptors. No condition.
-/
import Derived.Test.YtaeapoidigglnaaOnceVote
import Derived.Test.YtaeapoidigglnaaOslMem
import Derived.Test.YtaeapoidigglnaaSl2
import Derived.Test.YtaeapoidigglnaaBoolMem
import Derived.Test.YtaeapoidigglnaaBuild1
import Derived.Test.YtaeapoidigglnaaAnyC
namespace Go.Proofs.Ytaeapoidigglnaa
open Go.RowKit
set_option maxRecDepth 100000
def nx : Code → Code
  | .seq _ c => c
  | c => c
def fs : Code → Code
  | .seq a _ => a
  | c => c
def cblk : Code → Code
  | .block _ b => b
  | c => c
def lpb : Code → Code
  | .loop b => b
  | c => c
def lP (n : Nat) (pv : Nat → Nat) : List Value := rl (fun k => [Value.pointer (some ⟨pv k, 0, none⟩)]) n
def lV (n : Nat) (vw : Nat → Vw) : List Value := rl (fun k => vwC (vw k)) (n * 5)
def lT (n : Nat) (tk : Nat → Bool) : List Value := rl (fun k => [Value.bool (tk k)]) (n * 5)
def lU (n : Nat) : List Value := rl (fun _ => [Value.int .i64 0, .int .i64 0, .int .i64 0]) n
def lC (cs : List (List Int)) : List Value := cs.flatMap (fun c => c.map (Value.int .i64))
def lA (e : Int) (ac : Nat → Ac) : List Int := rl (fun a => acZ e (ac a)) 5
def fvt (v : List Int) (W : Nat → Int) (vt : Nat → Vt) (pv : Nat → Nat) (i : Nat) : Res := ibb (pv i) 92 (vtZ v W i (vt i)) [(vt i).P]
abbrev Oth := Option Addr × Nat
/-- what VoteOnce owns: the five slices, the votes, the acceptors, the view -/
def OMem (b5 b7 : Nat) (v : List Int) (n : Nat) (W : Nat → Int) (vt : Nat → Vt) (ac : Nat → Ac) (vw : Nat → Vw) (tk : Nat → Bool) (cs : List (List Int)) (pv : Nat → Nat) (x9 x10 x11 x12 x13 : Oth) : List Res :=
  [osl 55 1 (.slice x9.1 n x9.2) n (lP n pv), osl 88 30 (.slice x10.1 n x10.2) n (lV n vw), osl 89 5 (.slice x11.1 n x11.2) n (lT n tk), osl 27 3 (.slice x12.1 n x12.2) n (lU n), osl 27 3 (.slice x13.1 cs.length x13.2) cs.length (lC cs),
   fam (List.range n) (fvt v W vt pv), ib b7 80 (lA (gi v 0) ac), ib b5 53 v]
theorem agg80 : AggT Try.prog 80 40 := ⟨by kernel_rfl, by kernel_rfl⟩
theorem agg85 : AggT Try.prog 85 6 := ⟨by kernel_rfl, by kernel_rfl⟩
theorem agg87 : AggT Try.prog 87 6 := ⟨by kernel_rfl, by kernel_rfl⟩
theorem agg88 : AggT Try.prog 88 30 := ⟨by kernel_rfl, by kernel_rfl⟩
theorem agg89 : AggT Try.prog 89 5 := ⟨by kernel_rfl, by kernel_rfl⟩
theorem one55 : OneT Try.prog 55 := ⟨by kernel_rfl, by kernel_rfl⟩
theorem zi29 : ZeroI Try.prog 29 8 := by unfold ZeroI; kernel_rfl
theorem zi80 : ZeroI Try.prog 80 40 := by unfold ZeroI; kernel_rfl
theorem zi85 : ZeroI Try.prog 85 6 := by unfold ZeroI; kernel_rfl
theorem zm87 : ZeroM Try.prog 87 5 1 := by unfold ZeroM; kernel_rfl
theorem slT81 : SlT Try.prog 81 55 1 8 (.pointer none) := ⟨by kernel_rfl, by kernel_rfl, by kernel_rfl, by decide⟩
section
variable {n : Nat} {vw : Nat → Vw} {tk : Nat → Bool} {ac : Nat → Ac} {pv : Nat → Nat} {e : Int}
theorem vwC_len {x : Vw} (h : x.c.length = 3) : (vwC x).length = 6 := by simp [vwC, h]
theorem vwC_mix (x : Vw) : vwC x = mix ([(x.h : Int), x.hw] ++ x.c) [x.t] := by simp [vwC, mix]
theorem lV_len (h : ∀ k, k < n * 5 → (vw k).c.length = 3) : (lV n vw).length = n * 30 := by
  unfold lV; rw [rl_len (q := 6) (fun k hk => vwC_len (h k hk))]; omega
theorem lV_at (h : ∀ k, k < n * 5 → (vw k).c.length = 3) {i a off : Nat} (hi : i < n) (ha : a < 5) (ho : off = i * 30 + a * 6) : ((lV n vw).drop off).take 6 = vwC (vw (i * 5 + a)) :=
  rl_take (q := 6) (fun k hk => vwC_len (h k hk)) (k := i * 5 + a) (by omega) (by omega)
theorem lV_put (h : ∀ k, k < n * 5 → (vw k).c.length = 3) {i a off : Nat} (hi : i < n) (ha : a < 5) (ho : off = i * 30 + a * 6) {x : Vw} (hx : x.c.length = 3) : splice (lV n vw) off (vwC x) = lV n (upf vw (i * 5 + a) x) :=
  rl_splice (q := 6) (fun k hk => vwC_len (h k hk)) (k := i * 5 + a) (by omega) (by omega) (vwC_len hx) (fun j => by
    by_cases hj : j = i * 5 + a
    · rw [if_pos hj, hj, upf_at]
    · rw [if_neg hj, upf_ne _ _ hj])
theorem lT_len : (lT n tk).length = n * 5 := by unfold lT; rw [rl_len (q := 1) (fun _ _ => rfl)]; omega
theorem lT_at {i a off : Nat} (hi : i < n) (ha : a < 5) (ho : off = i * 5 + a) : (lT n tk)[off]? = some (.bool (tk (i * 5 + a))) := by
  subst ho; exact rl_one (f := fun k => Value.bool (tk k)) (by omega)
theorem lT_put {i a off : Nat} (hi : i < n) (ha : a < 5) (ho : off = i * 5 + a) (b : Bool) : splice (lT n tk) off [.bool b] = lT n (upf tk (i * 5 + a) b) :=
  rl_splice (q := 1) (fun _ _ => rfl) (k := i * 5 + a) (by omega) (by omega) rfl (fun j => by
    by_cases hj : j = i * 5 + a
    · rw [if_pos hj, hj, upf_at]
    · rw [if_neg hj, upf_ne _ _ hj])
theorem lP_len : (lP n pv).length = n := by unfold lP; rw [rl_len (q := 1) (fun _ _ => rfl)]; omega
theorem lP_at {i : Nat} (hi : i < n) : (lP n pv)[i]? = some (.pointer (some ⟨pv i, 0, none⟩)) := rl_one (f := fun k => Value.pointer (some ⟨pv k, 0, none⟩)) hi
theorem lA_len (h : ∀ a, a < 5 → (ac a).c.length = 3) : (lA e ac).length = 40 := by unfold lA; rw [rl_len (q := 8) (fun k hk => acZ_len (h k hk))]
theorem lA_at (h : ∀ a, a < 5 → (ac a).c.length = 3) {a off : Nat} (ha : a < 5) (ho : off = a * 8) : sub (lA e ac) off 8 = acZ e (ac a) :=
  rl_sub (q := 8) (fun k hk => acZ_len (h k hk)) ho ha
theorem lA_put (h : ∀ a, a < 5 → (ac a).c.length = 3) {a off : Nat} (ha : a < 5) (ho : off = a * 8) {x : Ac} (hx : x.c.length = 3) : spl (lA e ac) off (acZ e x) = lA e (upf ac a x) :=
  rl_spl (q := 8) (fun k hk => acZ_len (h k hk)) ho ha (acZ_len hx) (fun j => by
    by_cases hj : j = a
    · rw [if_pos hj, hj, upf_at]
    · rw [if_neg hj, upf_ne _ _ hj])
end
theorem und87 : Try.prog.underlying 87 = some (.struct (Try.prog.fieldsOf 87)) := by kernel_rfl
theorem pl87 : (Try.prog.fieldsOf 87).toList.map (placeOf Try.prog) = [(0, 2), (2, 3), (5, 1)] := by kernel_rfl
theorem kn87 : (Try.prog.fieldsOf 87).toList.all (fun f => (Try.prog.info? f.type).isSome) = true := by kernel_rfl
theorem build87 (h : Nat) (hw : Int) (c : List Int) (t : Bool) (hc : c.length = 3) (w : World) : (Instr.build 87 #[(0, ia [(h : Int), hw]), (1, ia c), (2, .bool t)]).run Try.prog w = .ok (.agg (vwC ⟨h, hw, c, t⟩).toArray) w := by
  have hz2 : (Try.prog.info? 87).map (·.zero) = some (some (.agg (mix (nau 5) (List.replicate 1 false)).toArray)) := zm87
  obtain ⟨inf, hinf, hz'⟩ := Option.map_eq_some_iff.1 hz2
  have hzv : (zeroValue 87).run Try.prog w = .ok (.agg (mix (nau 5) (List.replicate 1 false)).toArray) w := by simp [zeroValue, typeInfo, hinf, hz']
  have hr := run_mapM_places (P := Try.prog) (Try.prog.fieldsOf 87).toList (List.all_eq_true.1 kn87) w
  rw [pl87] at hr
  simp only [Instr.build, Sem.run_bind, hzv, Result.andThen_ok, run_underlying und87]
  rw [← Array.toArray_toList (xs := Try.prog.fieldsOf 87), List.mapM_toArray]
  simp only [Sem.run_map, hr]
  match c, hc with
  | [c0, c1, c2], _ => simp [Instr.fill, ia, mix, nau, List.replicate, Value.cells, vwC]
section
variable {ops : Array Oper} {Q : Exit → Act → World → Prop} {a : Act} {rest : List Oper} {w : World} {dst : Option Tmp} {ty : TypeId} {pos : String} {af : Array Edge}
theorem wpList_build87 {x y z : Operand} {h : Nat} {hw : Int} {c : List Int} {t : Bool} (hx : a.eval x = ia [(h : Int), hw]) (hy : a.eval y = ia c) (hz : a.eval z = .bool t) (hc : c.length = 3)
    (k : wpList Try.prog ops Q rest (a.put dst (.agg (vwC ⟨h, hw, c, t⟩).toArray)) w) : wpList Try.prog ops Q (⟨dst, .build 87 #[(0, x), (1, y), (2, z)], ty, pos, af, none⟩ :: rest) a w := by
  refine wpList_yld ?_ k
  unfold Yld execOp
  simp only [List.map_toArray, List.map_cons, List.map_nil, hx, hy, hz, Sem.run_bind, build87 h hw c t hc, Result.andThen_ok]
  rfl
end
theorem vwC_one (x : Vw) : ∀ u ∈ vwC x, u.oneCell' = true := fun u hu => by
  simp only [vwC, List.mem_append, List.mem_cons, List.mem_map, List.not_mem_nil, or_false] at hu
  rcases hu with ((rfl | rfl) | ⟨z, _, rfl⟩) | rfl <;> simp [Value.oneCell']
section
variable {P : Program} {ops : Array Oper} {Q : Exit → Act → World → Prop} {a : Act} {rest : List Oper} {T : List Nat} {w0 w : World} {m m' : List Res} {dst : Option Tmp} {ty : TypeId} {pos : String} {af : Array Edge}
theorem yld_load_mia {x : Operand} {t n b off : Nat} {e : TypeId} {zs vs : List Int} {bs : List Bool} {gd : Option (Nat × Bool)} (hI : Inv T w0 w m) (hx : a.eval x = .pointer (some ⟨b, off, none⟩)) (hm : ibb b e zs bs ∈ m) (hT : AggT P t n) (hl : off + n ≤ zs.length) (hv : sub zs off n = vs) :
    Yld P ⟨dst, .load t x, ty, pos, af, gd⟩ a w (ia vs) := by
  have h := yld_load_agg (dst := dst) (ty := ty) (pos := pos) (af := af) (g := gd) hI hx hm hT (by rw [mix_len]; omega)
  rw [mix_sub zs bs off n hl, hv] at h
  exact h
/-- a vow is laid down whole -/
theorem wpList_store_vw {x y : Operand} {b : Nat} {zs : List Int} {bs : List Bool} {v : Vw} (hI : Inv T w0 w m) (hx : a.eval x = .pointer (some ⟨b, 0, none⟩)) (hv : a.eval y = .agg (vwC v).toArray) (hu : Upd (ibb b 87 zs bs) (ibb b 87 ([(v.h : Int), v.hw] ++ v.c) [v.t]) m m') (hl : zs.length = 5) (hb : bs.length = 1) (hc : v.c.length = 3)
    (K : ∀ w', Inv T w0 w' m' → wpList Try.prog ops Q rest (a.put dst undef) w') : wpList Try.prog ops Q (⟨dst, .store 87 x y, ty, pos, af, none⟩ :: rest) a w :=
  wpList_store hI hx (vs := vwC v) (by rw [hv]; rfl) (by
    have e : splice (mix zs bs) 0 (vwC v) = mix ([(v.h : Int), v.hw] ++ v.c) [v.t] := by
      unfold splice
      rw [List.drop_of_length_le (by rw [mix_len, vwC_len hc]; omega), vwC_mix]; simp
    rw [e]; exact hu) agg87.size (vwC_len hc) (by rw [mix_len]; omega) (vwC_one v) K
/-- an operation that is guarded off -/
theorem anyC_skipl {C : World → Prop} {md : Region.Mode} {l : List Oper} {i : Nat} {o : Oper} {fuel : Nat} {listed : Array Bool} (ho : l[i]? = some o) (hw : Region.wanted o (yielded l.toArray a.tmps) = false)
    (h : anyC C P md l.toArray Q fuel (listed.setIfInBounds i true) (a.put o.dst undef) w) : wpOp P l.toArray Q i (anyC C P md l.toArray Q fuel (listed.setIfInBounds i true)) a w := by
  unfold wpOp
  rw [show l.toArray[i]? = some o by simpa using ho]
  simp only
  rw [if_neg (by rw [hw]; decide)]
  exact h
theorem fold_set : ∀ (vs A : List Value) (k : Nat), A.length = k + vs.length → (vs.zipIdx k).foldl (fun cs (x : Value × Nat) => cs.setIfInBounds x.2 x.1) A.toArray = (A.take k ++ vs).toArray
  | [], A, k, h => by simp at h; simp [List.take_of_length_le (Nat.le_of_eq h)]
  | v :: vs, A, k, h => by
    rw [List.zipIdx_cons, List.foldl_cons, List.setIfInBounds_toArray, fold_set vs (A.set k v) (k + 1) (by simp at h ⊢; omega)]
    congr 1
    rw [List.take_succ_eq_append_getElem (by simp at h ⊢; omega)]
    simp [List.take_set_of_le]
/-- a slice of one value of several cells -/
theorem wpList_bslice1c {t e q bytes : Nat} {z : Value} {x0 : Operand} {vs : List Value} (hI : Inv T w0 w m) (hT : SlT P t e q bytes z) (h0 : (a.eval x0).cells = vs.toArray) (hl : vs.length = q) (hq : q ≤ 16777216)
    (k : ∀ b w', Inv T w0 w' (osl e q (.slice (some ⟨b, 0, none⟩) 1 1) 1 vs :: m) → wpList P ops Q rest (a.put dst (.slice (some ⟨b, 0, none⟩) 1 1)) w') :
    wpList P ops Q (⟨dst, .buildSlice t 1 #[(0, x0)], ty, pos, af, none⟩ :: rest) a w :=
  wpList_bslice hI hT (by omega) (by decide) (by
    have hz : ((Array.range (1 * q)).map (z.cells[· % z.cells.size]!)).size = vs.length := by simp [hl]
    generalize (Array.range (1 * q)).map (z.cells[· % z.cells.size]!) = A at hz
    obtain ⟨A, rfl⟩ : ∃ B : List Value, A = B.toArray := ⟨A.toList, by simp⟩
    have hz' : A.length = 0 + vs.length := by simpa using hz
    simp only [List.map_toArray, List.map_cons, List.map_nil, Instr.fill, h0]
    have := fold_set vs A 0 hz'
    simp only [List.take_zero, List.nil_append] at this
    simpa [hl] using And.intro (show q ≤ A.length by omega) this
    ) (by simp [hl]) k
end
theorem slT64 : SlT Try.prog 64 27 3 24 (ia (nau 3)) := ⟨by kernel_rfl, by kernel_rfl, by kernel_rfl, by decide⟩
theorem slT82 : SlT Try.prog 82 88 30 240 (.agg (lV 1 (fun _ => ⟨0, 0, [0, 0, 0], false⟩)).toArray) := ⟨by kernel_rfl, by kernel_rfl, by kernel_rfl, by decide⟩
theorem slT83 : SlT Try.prog 83 89 5 5 (.agg (lT 1 (fun _ => false)).toArray) := ⟨by kernel_rfl, by kernel_rfl, by kernel_rfl, by decide⟩
theorem lC_app (cs : List (List Int)) (c : List Int) : lC (cs ++ [c]) = lC cs ++ c.map (Value.int .i64) := by simp [lC]
theorem lC_at : ∀ {cs : List (List Int)} (h : ∀ c ∈ cs, c.length = 3) {k : Nat} {c : List Int}, cs[k]? = some c → ((lC cs).drop (k * 3)).take 3 = c.map (Value.int .i64)
  | [], _, k, c, hk => by simp at hk
  | d :: cs, h, 0, c, hk => by
    have hd := h d (by simp)
    simp only [List.getElem?_cons_zero, Option.some.injEq] at hk
    subst hk
    rw [Nat.zero_mul, List.drop_zero, show lC (d :: cs) = d.map (Value.int .i64) ++ lC cs from rfl, List.take_append_of_le_length (by simp [hd]), List.take_of_length_le (by simp [hd])]
  | d :: cs, h, k + 1, c, hk => by
    have hd := h d (by simp)
    rw [show lC (d :: cs) = d.map (Value.int .i64) ++ lC cs from rfl, show (k + 1) * 3 = (d.map (Value.int .i64)).length + k * 3 by simp [hd]; omega, List.drop_append]
    simp only [List.drop_of_length_le (Nat.le_add_right _ _), List.nil_append, Nat.add_sub_cancel_left]
    exact lC_at (fun c hc => h c (by simp [hc])) (by simpa using hk)
theorem lC_len {cs : List (List Int)} (h : ∀ c ∈ cs, c.length = 3) : (lC cs).length = cs.length * 3 := by
  induction cs with
  | nil => rfl
  | cons d cs ih => rw [show lC (d :: cs) = d.map (Value.int .i64) ++ lC cs from rfl, List.length_append, ih (fun c hc => h c (by simp [hc])), List.length_map, h d (by simp), List.length_cons]; omega
def zVw : Vw := ⟨0, 0, [0, 0, 0], false⟩
theorem zero88 : (Try.prog.info? 88).map (·.zero) = some (some (.agg (lV 1 (fun _ => zVw)).toArray)) := by kernel_rfl
theorem zero89 : (Try.prog.info? 89).map (·.zero) = some (some (.agg (lT 1 (fun _ => false)).toArray)) := by kernel_rfl
theorem kn88 : KnownT Try.prog 88 := by unfold KnownT; kernel_rfl
theorem kn89 : KnownT Try.prog 89 := by unfold KnownT; kernel_rfl
theorem rl_app {α : Type} (f : Nat → List α) (a : Nat) : ∀ b, rl f (a + b) = rl f a ++ rl (fun k => f (a + k)) b
  | 0 => by simp [rl]
  | b + 1 => by rw [← Nat.add_assoc, rl_succ, rl_app f a b, rl_succ, List.append_assoc]
theorem lV_more (n : Nat) (vw : Nat → Vw) : lV n vw ++ lV 1 (fun _ => zVw) = lV (n + 1) (fun k => if k < n * 5 then vw k else zVw) := by
  unfold lV
  rw [show (n + 1) * 5 = n * 5 + 1 * 5 by omega, rl_app]
  congr 1
  · exact rl_congr fun k hk => by simp only; rw [if_pos hk]
  · exact rl_congr fun k hk => by simp only; rw [if_neg (by omega)]
theorem lT_more (n : Nat) (tk : Nat → Bool) : lT n tk ++ lT 1 (fun _ => false) = lT (n + 1) (fun k => if k < n * 5 then tk k else false) := by
  unfold lT
  rw [show (n + 1) * 5 = n * 5 + 1 * 5 by omega, rl_app]
  congr 1
  · exact rl_congr fun k hk => by simp only; rw [if_pos hk]
  · exact rl_congr fun k hk => by simp only; rw [if_neg (by omega)]
theorem lP_more (n : Nat) (pv : Nat → Nat) (p : Nat) : lP n pv ++ [.pointer (some ⟨p, 0, none⟩)] = lP (n + 1) (upf pv n p) :=
  rl_more (fun j hj => by rw [upf_ne _ _ (by omega)]) (by rw [upf_at])
theorem lU_more (n : Nat) : lU n ++ (nau 3).map (Value.int .i64) = lU (n + 1) := rl_more (fun _ _ => rfl) rfl
section
variable {P : Program} {ops : Array Oper} {Q : Exit → Act → World → Prop} {a : Act} {rest : List Oper} {w : World} {dst : Option Tmp} {ty : TypeId} {pos : String} {af : Array Edge}
theorem wpList_build0_v {t : TypeId} {cs : List Value} (hz : (P.info? t).map (·.zero) = some (some (.agg cs.toArray))) (hK : KnownT P t)
    (k : wpList P ops Q rest (a.put dst (.agg cs.toArray)) w) : wpList P ops Q (⟨dst, .build t #[], ty, pos, af, none⟩ :: rest) a w := by
  refine wpList_yld ?_ k
  unfold Yld execOp
  simp only [Array.map_empty, Sem.run_bind, run_build0 hz (show (Value.agg cs.toArray).cells = cs.toArray from rfl) hK, Result.andThen_ok]
  rfl
end
theorem fvt_new (v : List Int) (W : Nat → Int) (vt : Nat → Vt) (pv : Nat → Nat) (n p : Nat) (wv : Int) (c : List Int) : ibb p 92 (newZ v [(n : Int) + 1, wv] c) [false] = fvt v (upf W n wv) (upf vt n ⟨c, 0, 0, 0, 0, false⟩) (upf pv n p) n := by
  unfold fvt; rw [upf_at, upf_at, ← vt_new]
theorem fvt_old (v : List Int) (W : Nat → Int) (vt : Nat → Vt) (pv : Nat → Nat) (n p : Nat) (wv : Int) (x : Vt) : ∀ j ∈ List.range n, fvt v (upf W n wv) (upf vt n x) (upf pv n p) j = fvt v W vt pv j := fun j hj => by
  have h := List.mem_range.1 hj
  have hn : j ≠ n := by omega
  unfold fvt vtZ; rw [upf_ne _ _ hn, upf_ne _ _ hn, upf_ne _ _ hn]
theorem vote_more {T : List Nat} {w0 w : World} {v : List Int} {W : Nat → Int} {vt : Nat → Vt} {pv : Nat → Nat} {n p : Nat} {wv : Int} {c : List Int} {x1 x2 x3 x4 x5 x7 x8 : Res} (h : Inv T w0 w [ibb p 92 (newZ v [(n : Int) + 1, wv] c) [false], x1, x2, x3, x4, x5, fam (List.range n) (fvt v W vt pv), x7, x8]) :
    Inv T w0 w [x1, x2, x3, x4, x5, fam (List.range (n + 1)) (fvt v (upf W n wv) (upf vt n ⟨c, 0, 0, 0, 0, false⟩) (upf pv n p)), x7, x8] := by
  rw [List.range_succ]
  exact h.more (by simp) (fvt_new v W vt pv n p wv c) (fvt_old v W vt pv n p wv _) (.there (.there (.there (.there (.there .here)))))
theorem nextF_two (v c : List Int) : (nextF v c).2 = 0 ∨ (nextF v c).2 = 5 := by
  unfold nextF
  by_cases h1 : okJ v c = true
  · rw [if_pos h1]; exact .inl rfl
  · rw [if_neg h1]
    by_cases h2 : okL v c = true
    · rw [if_pos h2]; exact .inl rfl
    · rw [if_neg h2]; exact .inr rfl
theorem nextF_len {v : List Int} {m : Int} (g : Good v m) (c : List Int) : (nextF v c).1.length = 7 := by
  rcases g.next c with ⟨_, g2⟩ | h
  · exact g2.len
  · rw [h]; rfl
theorem fvt_at (v : List Int) (W : Nat → Int) (vt : Nat → Vt) (pv : Nat → Nat) (i : Nat) (x : Vt) : ibb (pv i) 92 (vtZ v W i x) [x.P] = fvt v W (upf vt i x) pv i := by unfold fvt; rw [upf_at]
theorem fvt_ne (v : List Int) (W : Nat → Int) (vt : Nat → Vt) (pv : Nat → Nat) (i : Nat) (x : Vt) (I : List Nat) : ∀ j ∈ I, j ≠ i → fvt v W (upf vt i x) pv j = fvt v W vt pv j := fun j _ h => by unfold fvt; rw [upf_ne _ _ h]
theorem vw_ok {M : Int} {W : Nat → Int} {n : Nat} {vt : Nat → Vt} {ac : Nat → Ac} {vw : Nat → Vw} {tk : Nat → Bool} {cs : List (List Int)} (h : Once M W n vt ac vw tk cs) : ∀ k, k < n * 5 → (vw k).c.length = 3 := fun k hk => by
  have := (h.vi (k / 5) (k % 5) (by omega) (by omega)).1
  rwa [show k / 5 * 5 + k % 5 = k by omega] at this
section
variable {T : List Nat} {w0 w : World} {r x1 x2 x3 x4 x5 x6 x7 x8 : Res} {f g : Nat → Res} {I : List Nat} {i : Nat}
/-- the vote that was taken out goes back -/
theorem vote_in (hr : r = g i) (hn : I.Nodup) (hi : i ∈ I) (hg : ∀ j ∈ I, j ≠ i → g j = f j) (h : Inv T w0 w [r, x1, x2, x3, x4, x5, fam (I.erase i) f, x7, x8]) : Inv T w0 w [x1, x2, x3, x4, x5, fam I g, x7, x8] :=
  h.push hn hi hr hg (.there (.there (.there (.there (.there .here)))))
theorem vote_out (hi : i ∈ I) (h : Inv T w0 w [x1, x2, x3, x4, x5, fam I f, x7, x8]) : Inv T w0 w [f i, x1, x2, x3, x4, x5, fam (I.erase i) f, x7, x8] :=
  h.pull hi (.there (.there (.there (.there (.there .here)))))
end
end Go.Proofs.Ytaeapoidigglnaa
