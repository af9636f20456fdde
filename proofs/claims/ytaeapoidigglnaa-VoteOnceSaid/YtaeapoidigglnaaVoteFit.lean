/-
  legateelaw13.fit. No condition.
-/
import Derived.Test.YtaeapoidigglnaaVote
namespace Go.Proofs.Ytaeapoidigglnaa
open Go.RowKit
set_option maxRecDepth 100000
theorem fld25 : FieldT Try.prog 25 0 0 := ⟨Try.prog.fieldsOf 25, by kernel_rfl, by kernel_rfl, by kernel_rfl⟩
theorem und25 : Try.prog.underlying 25 = some (.struct (Try.prog.fieldsOf 25)) := by kernel_rfl
theorem pl25 : (Try.prog.fieldsOf 25).toList.map (placeOf Try.prog) = [(0, 1), (1, 1)] := by kernel_rfl
theorem kp25 : (Try.prog.fieldsOf 25).toList.all (fun f => (Try.prog.info? f.type).isSome) = true := by kernel_rfl
theorem und27 : Try.prog.underlying 27 = some (.struct (Try.prog.fieldsOf 27)) := by kernel_rfl
theorem pl27 : (Try.prog.fieldsOf 27).toList.map (placeOf Try.prog) = [(0, 1), (1, 1), (2, 1)] := by kernel_rfl
theorem kp27 : (Try.prog.fieldsOf 27).toList.all (fun f => (Try.prog.info? f.type).isSome) = true := by kernel_rfl
theorem build25 (p q : Int) (w : World) : (Instr.build 25 #[(0, .int .i64 p), (1, .int .i64 q)]).run Try.prog w = .ok (ia [p, q]) w := by
  have hz2 : (Try.prog.info? 25).map (·.zero) = some (some (ia (nau 2))) := zi25
  obtain ⟨inf, hinf, hz'⟩ := Option.map_eq_some_iff.1 hz2
  have hzv : (zeroValue 25).run Try.prog w = .ok (ia (nau 2)) w := by simp [zeroValue, typeInfo, hinf, hz']
  have hr := run_mapM_places (P := Try.prog) (Try.prog.fieldsOf 25).toList (List.all_eq_true.1 kp25) w
  rw [pl25] at hr
  simp only [Instr.build, Sem.run_bind, hzv, Result.andThen_ok, run_underlying und25]
  rw [← Array.toArray_toList (xs := Try.prog.fieldsOf 25), List.mapM_toArray]
  simp only [Sem.run_map, hr]
  simp [Instr.fill, ia, nau, List.replicate, Value.cells]
theorem build27 (p q : Int) (w : World) : (Instr.build 27 #[(0, .int .i64 p), (1, .int .i64 q)]).run Try.prog w = .ok (ia [p, q, 0]) w := by
  have hz2 : (Try.prog.info? 27).map (·.zero) = some (some (ia (nau 3))) := zi27
  obtain ⟨inf, hinf, hz'⟩ := Option.map_eq_some_iff.1 hz2
  have hzv : (zeroValue 27).run Try.prog w = .ok (ia (nau 3)) w := by simp [zeroValue, typeInfo, hinf, hz']
  have hr := run_mapM_places (P := Try.prog) (Try.prog.fieldsOf 27).toList (List.all_eq_true.1 kp27) w
  rw [pl27] at hr
  simp only [Instr.build, Sem.run_bind, hzv, Result.andThen_ok, run_underlying und27]
  rw [← Array.toArray_toList (xs := Try.prog.fieldsOf 27), List.mapM_toArray]
  simp only [Sem.run_map, hr]
  simp [Instr.fill, ia, nau, List.replicate, Value.cells]
section
variable {ops : Array Oper} {Q : Exit → Act → World → Prop} {a : Act} {rest : List Oper} {w : World} {dst : Option Tmp} {ty : TypeId} {pos : String} {af : Array Edge}
theorem wpList_build25 {x y : Operand} {p q : Int} (hx : a.eval x = .int .i64 p) (hy : a.eval y = .int .i64 q)
    (k : wpList Try.prog ops Q rest (a.put dst (ia [p, q])) w) : wpList Try.prog ops Q (⟨dst, .build 25 #[(0, x), (1, y)], ty, pos, af, none⟩ :: rest) a w := by
  refine wpList_yld ?_ k
  unfold Yld execOp
  simp only [List.map_toArray, List.map_cons, List.map_nil, hx, hy, Sem.run_bind, build25, Result.andThen_ok]
  rfl
theorem wpList_build27 {x y : Operand} {p q : Int} (hx : a.eval x = .int .i64 p) (hy : a.eval y = .int .i64 q)
    (k : wpList Try.prog ops Q rest (a.put dst (ia [p, q, 0])) w) : wpList Try.prog ops Q (⟨dst, .build 27 #[(0, x), (1, y)], ty, pos, af, none⟩ :: rest) a w := by
  refine wpList_yld ?_ k
  unfold Yld execOp
  simp only [List.map_toArray, List.map_cons, List.map_nil, hx, hy, Sem.run_bind, build27, Result.andThen_ok]
  rfl
theorem wpList_field1 {P : Program} {x : Operand} {t i off e : Nat} {zs : List Int} {fs : Array Field} {f : Field} (hx : a.eval x = ia zs) (hu : P.underlying t = some (.struct fs)) (hf : fs[i]? = some f) (ht : f.type = e) (ho : f.offset = off) (hT : OneT P e) (hl : off < zs.length)
    (k : wpList P ops Q rest (a.put dst (.int .i64 (gi zs off))) w) : wpList P ops Q (⟨dst, .field t x i, ty, pos, af, none⟩ :: rest) a w := by
  refine wpList_yld ?_ k
  have hv : (zs.map (Value.int .i64))[off]? = some (.int .i64 (gi zs off)) := by simp [hl, gi]
  unfold Yld execOp
  simp only [hx, ia, Instr.field, Sem.run_bind, run_underlying hu, Result.andThen_ok, hf, ht, ho, asAgg, Sem.run_pure, run_part_one hT hv]
theorem fs27 : (Try.prog.fieldsOf 27)[1]? = some (((Try.prog.fieldsOf 27)[1]?).getD default) := by kernel_rfl
theorem ft27 : (((Try.prog.fieldsOf 27)[1]?).getD default).type = 3 := by kernel_rfl
theorem fo27 : (((Try.prog.fieldsOf 27)[1]?).getD default).offset = 1 := by kernel_rfl
theorem wpList_build0_as {P : Program} {t n : Nat} {zs : List Int} (hz : ZeroI P t n) (hK : KnownT P t) (h : nau n = zs)
    (k : wpList P ops Q rest (a.put dst (ia zs)) w) : wpList P ops Q (⟨dst, .build t #[], ty, pos, af, none⟩ :: rest) a w :=
  wpList_build0_ia hz hK (by rw [h]; exact k)
end
def fz0 : List Int := [1, 7, 0, 0, 0, 0, 0, 1, 0, 0, 3, 0, 0, 0, 0, 0]
def fz1 : List Int := [1, 7, 0, 0, 0, 0, 0, 1, 0, 0, 3, 0, 0, 0, 1, 0]
def fz2 : List Int := [1, 7, 0, 0, 0, 0, 0, 1, 0, 0, 3, 0, 0, 0, 3, 0]
def fz3 : List Int := [1, 7, 0, 0, 0, 0, 0, 1, 0, 0, 3, 0, 0, 0, 3, 1]
def fz4 : List Int := [1, 7, 0, 0, 0, 0, 0, 1, 0, 0, 3, 0, 0, 0, 3, 5]
theorem fnew (w0 : World) (v : List Int) (hv : v = firstV) : Calls Try.prog 30 #[ia v, ia [1, 0], ia [0, 3, 0]] w0 fun e w' => ∃ p, e = .returned (.pointer (some ⟨p, 0, none⟩)) ∧ Inv [] w0 w' [ibb p 92 fz0 [false]] :=
  by subst hv; exact new_any w0 firstV [1, 0] [0, 3, 0] rfl rfl rfl
section
variable (w0 : World) (b : Nat)
theorem fv1 (hb : w0.heap[b]? = some (.cells (mix fz0 [false]).toArray 92 (0, 0))) : Calls Try.prog 31 #[.pointer (some ⟨b, 0, none⟩), .int .i64 0, ia [1, 0], ia [0, 0], ia [0, 0, 0]] w0 fun e w' => e = .returned (.bool false) ∧ Step [b] w0 w' ∧ w'.heap[b]? = some (.cells (mix fz1 [false]).toArray 92 (0, 0)) := by
  have h := vowed_yes w0 b 92 fz0 rfl hb 0 (by decide) (by decide +kernel) [0, 0] [0, 0, 0] rfl rfl (by decide)
  rw [show bitZ fz0 14 0 = fz1 from by decide +kernel, show mostB (gi fz1 14) (gi (sub fz1 0 7) 1) = false from by decide +kernel] at h
  exact h
theorem fv2 (hb : w0.heap[b]? = some (.cells (mix fz1 [false]).toArray 92 (0, 0))) : Calls Try.prog 31 #[.pointer (some ⟨b, 0, none⟩), .int .i64 1, ia [1, 0], ia [0, 0], ia [0, 0, 0]] w0 fun e w' => e = .returned (.bool true) ∧ Step [b] w0 w' ∧ w'.heap[b]? = some (.cells (mix fz2 [true]).toArray 92 (0, 0)) := by
  have h := vowed_yes w0 b 92 fz1 rfl hb 1 (by decide) (by decide +kernel) [0, 0] [0, 0, 0] rfl rfl (by decide)
  rw [show bitZ fz1 14 1 = fz2 from by decide +kernel, show mostB (gi fz2 14) (gi (sub fz2 0 7) 1) = true from by decide +kernel] at h
  exact h
theorem ft1 (hb : w0.heap[b]? = some (.cells (mix fz2 [true]).toArray 92 (0, 0))) : Calls Try.prog 32 #[.pointer (some ⟨b, 0, none⟩), .int .i64 0, ia [1, 0]] w0 fun e w' => e = .returned (.bool false) ∧ Step [b] w0 w' ∧ w'.heap[b]? = some (.cells (mix fz3 [true]).toArray 92 (0, 0)) := by
  have h := taken_yes w0 b 92 fz2 rfl hb 0 (by decide) (by decide +kernel)
  rw [show bitZ fz2 15 0 = fz3 from by decide +kernel, show mostB (gi fz3 15) (gi (sub fz3 0 7) 1) = false from by decide +kernel] at h
  exact h
theorem ft2 (hb : w0.heap[b]? = some (.cells (mix fz3 [true]).toArray 92 (0, 0))) : Calls Try.prog 32 #[.pointer (some ⟨b, 0, none⟩), .int .i64 2, ia [1, 0]] w0 fun e w' => e = .returned (.bool true) ∧ Step [b] w0 w' ∧ w'.heap[b]? = some (.cells (mix fz4 [true]).toArray 92 (0, 0)) := by
  have h := taken_yes w0 b 92 fz3 rfl hb 2 (by decide) (by decide +kernel)
  rw [show bitZ fz3 15 2 = fz4 from by decide +kernel, show mostB (gi fz4 15) (gi (sub fz4 0 7) 1) = true from by decide +kernel] at h
  exact h
theorem fch (hb : w0.heap[b]? = some (.cells (mix fz4 [true]).toArray 92 (0, 0))) : Calls Try.prog 34 #[.pointer (some ⟨b, 0, none⟩)] w0 fun e w' => e = .returned (ia [0, 3, 0]) ∧ Step [b] w0 w' ∧ w'.heap[b]? = some (.cells (mix fz4 [true]).toArray 92 (0, 0)) :=
  change_any w0 b 92 fz4 true rfl hb
theorem fba (hb : w0.heap[b]? = some (.cells (mix fz4 [true]).toArray 92 (0, 0))) : Calls Try.prog 35 #[.pointer (some ⟨b, 0, none⟩)] w0 fun e w' => e = .returned (ia [1, 0]) ∧ Step [b] w0 w' ∧ w'.heap[b]? = some (.cells (mix fz4 [true]).toArray 92 (0, 0)) :=
  ballot_any w0 b 92 fz4 true rfl hb
end
set_option maxHeartbeats 1600000 in
theorem fit13 (w0 : World) : Calls Try.prog 28 #[] w0 fun e w' => e = .returned (.bool true) ∧ Below w0.heap.size w0 w' := by
  have hI := Inv.start w0
  have hle : lessB (gi [1, 0] 0) (gi [1, 0] 1) (gi [0, 0] 0) (gi [0, 0] 1) = false := by decide
  have hg3 : gi [0, 3, 0] 1 = 3 := rfl
  obtain ⟨v, hvv⟩ : ∃ v, v = firstV := ⟨_, rfl⟩
  have hv := Lib.hid hvv
  clear hvv
  go_enter Try.func28, Try.ntmps28
  go_upto_region 4 with (first | (go_at_call 29; refine (first_any' _ v hv.out).mono ?_; rintro e w1 ⟨rfl, hw1⟩; replace hI := hI.call hw1; clear hw1) | (with_reducible refine wpList_build1_as (zs := [1, 0]) (by with_unfolding_all rfl) zi25 fld25 (by omega) (by with_unfolding_all rfl) ?_) | (with_reducible refine wpList_build27 (by with_unfolding_all rfl) (by with_unfolding_all rfl) ?_) | (go_at_call 30; (with_reducible refine (fnew _ v hv.out).mono ?_); rintro e w1 ⟨p, rfl, hJ⟩; replace hI := hI.seq hJ; clear hJ))
  (try simp only [Act.put, List.setIfInBounds_toArray, List.set_cons_succ, List.set_cons_zero])
  simp only [List.cons_append, List.nil_append] at hI
  go_wp2_with (first | ((with_reducible refine wpList_on  (by with_unfolding_all rfl) ?_)) | (with_reducible refine wpList_field1 (by with_unfolding_all rfl) und27 fs27 ft27 fo27 one3 (by with_unfolding_all decide) ?_) | (with_reducible refine wpList_build1_as (zs := [1, 0]) (by with_unfolding_all rfl) zi25 fld25 (by omega) (by with_unfolding_all rfl) ?_) | (with_reducible refine wpList_build0_as (zs := [0, 0]) zi25 kn25 (by with_unfolding_all rfl) ?_) | (with_reducible refine wpList_build0_as (zs := [0, 0, 0]) zi27 kn27 (by with_unfolding_all rfl) ?_) | (go_at_call 31; (with_reducible refine (fv1 _ p (hI.mbk (by (first | with_reducible exact mm0 | with_reducible exact mm1 | with_reducible exact mm2 | with_reducible exact mm3 | with_reducible exact mm4 | with_reducible exact mm5 | with_reducible exact mm6 | with_reducible exact mm7 | with_reducible exact mm8 | with_reducible exact mm9)))).mono ?_); rintro e w1 ⟨rfl, hst, hbk⟩; replace hI := hI.mcall (by (first | with_reducible exact uu0 | with_reducible exact uu1 | with_reducible exact uu2 | with_reducible exact uu3 | with_reducible exact uu4 | with_reducible exact uu5 | with_reducible exact uu6 | with_reducible exact uu7 | with_reducible exact uu8 | with_reducible exact uu9)) hst hbk; clear hst hbk) | (go_at_call 31; (with_reducible refine (fv2 _ p (hI.mbk (by (first | with_reducible exact mm0 | with_reducible exact mm1 | with_reducible exact mm2 | with_reducible exact mm3 | with_reducible exact mm4 | with_reducible exact mm5 | with_reducible exact mm6 | with_reducible exact mm7 | with_reducible exact mm8 | with_reducible exact mm9)))).mono ?_); rintro e w1 ⟨rfl, hst, hbk⟩; replace hI := hI.mcall (by (first | with_reducible exact uu0 | with_reducible exact uu1 | with_reducible exact uu2 | with_reducible exact uu3 | with_reducible exact uu4 | with_reducible exact uu5 | with_reducible exact uu6 | with_reducible exact uu7 | with_reducible exact uu8 | with_reducible exact uu9)) hst hbk; clear hst hbk) | (go_at_call 32; (with_reducible refine (ft1 _ p (hI.mbk (by (first | with_reducible exact mm0 | with_reducible exact mm1 | with_reducible exact mm2 | with_reducible exact mm3 | with_reducible exact mm4 | with_reducible exact mm5 | with_reducible exact mm6 | with_reducible exact mm7 | with_reducible exact mm8 | with_reducible exact mm9)))).mono ?_); rintro e w1 ⟨rfl, hst, hbk⟩; replace hI := hI.mcall (by (first | with_reducible exact uu0 | with_reducible exact uu1 | with_reducible exact uu2 | with_reducible exact uu3 | with_reducible exact uu4 | with_reducible exact uu5 | with_reducible exact uu6 | with_reducible exact uu7 | with_reducible exact uu8 | with_reducible exact uu9)) hst hbk; clear hst hbk) | (go_at_call 32; (with_reducible refine (ft2 _ p (hI.mbk (by (first | with_reducible exact mm0 | with_reducible exact mm1 | with_reducible exact mm2 | with_reducible exact mm3 | with_reducible exact mm4 | with_reducible exact mm5 | with_reducible exact mm6 | with_reducible exact mm7 | with_reducible exact mm8 | with_reducible exact mm9)))).mono ?_); rintro e w1 ⟨rfl, hst, hbk⟩; replace hI := hI.mcall (by (first | with_reducible exact uu0 | with_reducible exact uu1 | with_reducible exact uu2 | with_reducible exact uu3 | with_reducible exact uu4 | with_reducible exact uu5 | with_reducible exact uu6 | with_reducible exact uu7 | with_reducible exact uu8 | with_reducible exact uu9)) hst hbk; clear hst hbk) | (go_at_call 34; (with_reducible refine (fch _ p (hI.mbk (by (first | with_reducible exact mm0 | with_reducible exact mm1 | with_reducible exact mm2 | with_reducible exact mm3 | with_reducible exact mm4 | with_reducible exact mm5 | with_reducible exact mm6 | with_reducible exact mm7 | with_reducible exact mm8 | with_reducible exact mm9)))).mono ?_); rintro e w1 ⟨rfl, hst, hbk⟩; replace hI := hI.mcall (by (first | with_reducible exact uu0 | with_reducible exact uu1 | with_reducible exact uu2 | with_reducible exact uu3 | with_reducible exact uu4 | with_reducible exact uu5 | with_reducible exact uu6 | with_reducible exact uu7 | with_reducible exact uu8 | with_reducible exact uu9)) hst hbk; clear hst hbk) | (go_at_call 35; (with_reducible refine (fba _ p (hI.mbk (by (first | with_reducible exact mm0 | with_reducible exact mm1 | with_reducible exact mm2 | with_reducible exact mm3 | with_reducible exact mm4 | with_reducible exact mm5 | with_reducible exact mm6 | with_reducible exact mm7 | with_reducible exact mm8 | with_reducible exact mm9)))).mono ?_); rintro e w1 ⟨rfl, hst, hbk⟩; replace hI := hI.mcall (by (first | with_reducible exact uu0 | with_reducible exact uu1 | with_reducible exact uu2 | with_reducible exact uu3 | with_reducible exact uu4 | with_reducible exact uu5 | with_reducible exact uu6 | with_reducible exact uu7 | with_reducible exact uu8 | with_reducible exact uu9)) hst hbk; clear hst hbk) | (go_at_call 21; (with_reducible refine (less_ia _ [1, 0] [0, 0] rfl rfl).mono ?_); rw [hle]; rintro e w1 ⟨rfl, hw1⟩; replace hI := hI.call hw1; clear hw1))
  go_ret
  exact ⟨rfl, hI.below⟩
end Go.Proofs.Ytaeapoidigglnaa
