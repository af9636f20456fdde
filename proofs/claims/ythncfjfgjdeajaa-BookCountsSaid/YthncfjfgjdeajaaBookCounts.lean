/-
  The law BookCounts. No condition.
-/
import Derived.Test.YthncfjfgjdeajaaBookFit
import Derived.Test.YthncfjfgjdeajaaBookFill
import Derived.Test.YthncfjfgjdeajaaBookLaw
import Derived.Test.YthncfjfgjdeajaaReg3
namespace Go.Proofs.Ythncfjfgjdeajaa
open Go.RowKit
set_option maxRecDepth 100000
theorem fs24 : (Try.prog.fieldsOf 24)[2]? = some (((Try.prog.fieldsOf 24)[2]?).getD default) := by kernel_rfl
theorem ft24 : (((Try.prog.fieldsOf 24)[2]?).getD default).type = 22 := by kernel_rfl
theorem fo24 : (((Try.prog.fieldsOf 24)[2]?).getD default).offset = 2 := by kernel_rfl
section
variable {ops : Array Oper} {Q : Exit → Act → World → Prop} {a : Act} {rest : List Oper} {w : World} {dst : Option Tmp} {ty : TypeId} {pos : String} {af : Array Edge}
theorem wpList_field_ia {P : Program} {x : Operand} {t i off e q : Nat} {zs : List Int} {fs : Array Field} {f : Field} (hx : a.eval x = ia zs) (hu : P.underlying t = some (.struct fs)) (hf : fs[i]? = some f) (ht : f.type = e) (ho : f.offset = off) (hT : AggT P e q)
    (k : wpList P ops Q rest (a.put dst (ia (sub zs off q))) w) : wpList P ops Q (⟨dst, .field t x i, ty, pos, af, none⟩ :: rest) a w := by
  refine wpList_yld ?_ k
  unfold Yld execOp
  simp only [hx, ia, Instr.field, Sem.run_bind, run_underlying hu, Result.andThen_ok, hf, ht, ho, asAgg, Sem.run_pure, run_part_agg hT, sub, List.map_drop, List.map_take]
end
theorem nmc {T : List Nat} {w0 w : World} {a b : Nat} {e1 e2 : TypeId} {z1 z2 : List Int} {m : List Res} (_ : Inv T w0 w (ib a e1 z1 :: ib b e2 z2 :: m)) : ∃ a' b', a' = a ∧ b' = b := ⟨a, b, rfl, rfl⟩
theorem counts_big (w0 : World) (a : Option Addr) (len c : Nat) (who key : Int) (hbig : 20 < len) :
    Calls Try.prog 11 #[.slice a len c, .int .i64 who, .int .i64 key] w0 fun e w' => e = .returned (.bool true) ∧ Below w0.heap.size w0 w' := by
  have hI := Inv.start w0
  have hb : decide ((20 : Int) < (len : Int)) = true := by simp; omega
  go_enter Try.func11, Try.ntmps11
  go_wp2_with (first | ((with_reducible refine wpList_on  (by with_unfolding_all rfl) ?_)) | (go_at_call 31; refine (fit05 _).mono ?_; rintro e w1 ⟨rfl, hw1⟩; replace hI := hI.call hw1; clear hw1))
  go_ret
  exact ⟨rfl, hI.below⟩
set_option maxHeartbeats 6400000 in
theorem counts_bad (w0 : World) (a : Option Addr) (len c : Nat) (row : Nat → List Int) (h : IArg w0 a len 174 row) (who key : Int) (hlen20 : len ≤ 20)
    (hc : (decide (key < 0) = true ∧ decide (0 ≤ key) = false) ∨ (decide (key < 0) = false ∧ decide (0 ≤ key) = true ∧ decide (4 ≤ key) = true ∧ decide (key < 4) = false) ∨
      (decide (key < 0) = false ∧ decide (0 ≤ key) = true ∧ decide (4 ≤ key) = false ∧ decide (key < 4) = true ∧ decide (who < 0) = true) ∨
      (decide (key < 0) = false ∧ decide (0 ≤ key) = true ∧ decide (4 ≤ key) = false ∧ decide (key < 4) = true ∧ decide (who < 0) = false ∧ decide (5 ≤ who) = true))
    (hbad : machB who = false ∨ key < 0 ∨ 4 ≤ key) :
    Calls Try.prog 11 #[.slice a len c, .int .i64 who, .int .i64 key] w0 fun e w' => e = .returned (.bool true) ∧ Below w0.heap.size w0 w' := by
  have hI := Inv.start w0
  have hz := nau_len 870
  have hn7 := nau_len 7
  have hb : decide ((20 : Int) < (len : Int)) = false := by simp; omega
  have hk0 := fS_bk (row := row) len (fun j hj => ⟨(h.row j hj).1, (h.row j hj).2.1⟩) len (Nat.le_refl _)
  have hk := Lib.hid hk0
  have hml := hk0.len
  have hrr := Lib.hid (rights_none hk0 hbad)
  have hcv := Lib.hid (bCell_none (m := fS row len) hbad)
  have hvv : key < 0 ∨ 4 ≤ key → Hid (vTo (fS row len) key 5 = 0) := fun hq => Lib.hid (vTo_none hq)
  replace hvv := Lib.hid hvv
  have h00 : ((0 : Int) == 0) = true := rfl
  clear hk0 hbad
  go_enter Try.func11, Try.ntmps11
  go_upto_region 6 with (first | ((with_reducible refine wpList_on  (by with_unfolding_all rfl) ?_)) | (go_at_call 31; refine (fit05 _).mono ?_; rintro e w1 ⟨rfl, hw1⟩; replace hI := hI.call hw1; clear hw1) | (go_at_call 32; (with_reducible refine (filled_any _ _ len _ row (h.later hI)).mono ?_); rintro e w1 ⟨bb, rfl, hJ⟩; replace hI := hI.seq hJ; simp only [List.cons_append, List.nil_append] at hI; clear hJ) | ((with_reducible refine wpList_alloc_ia hI (by first | with_reducible exact zi22 | with_reducible exact zi24 | with_reducible exact zi25 | with_reducible exact zi26 | with_reducible exact zi28 | with_reducible exact zi47 | with_reducible exact zi73) ?_); clear hI; intro bx w hI) | ((with_reducible refine wpList_store_iw hI (by with_unfolding_all rfl) (by with_unfolding_all rfl) (by first | with_reducible exact uu0 | with_reducible exact uu1 | with_reducible exact uu2 | with_reducible exact uu3 | with_reducible exact uu4 | with_reducible exact uu5 | with_reducible exact uu6 | with_reducible exact uu7 | with_reducible exact uu8 | with_reducible exact uu9) (by first | with_reducible exact agg22 | with_reducible exact agg24 | with_reducible exact agg25 | with_reducible exact agg26 | with_reducible exact agg28 | with_reducible exact agg47 | with_reducible exact agg73) (by (repeat (first | rw [List.length_set] | rw [nau_len] | rw [sub_len] | rw [spl_len])) <;> omega) (by (repeat (first | rw [List.length_set] | rw [nau_len] | rw [sub_len] | rw [spl_len])) <;> omega) ?_); clear hI; intro w hI))
  (try simp only [Act.put])
  obtain ⟨b8, bk, e8, ek⟩ := nmc hI
  subst e8 ek
  clear h hb
  generalize fS row len = m at *
  rcases hc with ⟨c1, c2⟩ | ⟨c1, c2, c3, c4⟩ | ⟨c1, c2, c3, c4, c5⟩ | ⟨c1, c2, c3, c4, c5, c6⟩
  · replace hvv := hvv.out (.inl (by simpa using c1))
    go_wp2_with (first | ((with_reducible refine wpList_on  (by with_unfolding_all rfl) ?_)) | (go_at_call 33; (with_reducible refine (rights_any _ bk 73 m hk.out (hI.ibk (by (first | with_reducible exact mm0 | with_reducible exact mm1 | with_reducible exact mm2 | with_reducible exact mm3 | with_reducible exact mm4 | with_reducible exact mm5 | with_reducible exact mm6 | with_reducible exact mm7 | with_reducible exact mm8 | with_reducible exact mm9))) _ _).mono ?_); rw [hrr.out]; rintro e w1 ⟨rfl, hst, hbk⟩; replace hI := hI.icall (by (first | with_reducible exact uu0 | with_reducible exact uu1 | with_reducible exact uu2 | with_reducible exact uu3 | with_reducible exact uu4 | with_reducible exact uu5 | with_reducible exact uu6 | with_reducible exact uu7 | with_reducible exact uu8 | with_reducible exact uu9)) hst hbk; clear hst hbk) | (go_at_call 34; (with_reducible refine (bcell_any _ bk 73 m hk.out (hI.ibk (by (first | with_reducible exact mm0 | with_reducible exact mm1 | with_reducible exact mm2 | with_reducible exact mm3 | with_reducible exact mm4 | with_reducible exact mm5 | with_reducible exact mm6 | with_reducible exact mm7 | with_reducible exact mm8 | with_reducible exact mm9))) _ _).mono ?_); rw [hcv.out]; rintro e w1 ⟨rfl, hst, hbk⟩; replace hI := hI.icall (by (first | with_reducible exact uu0 | with_reducible exact uu1 | with_reducible exact uu2 | with_reducible exact uu3 | with_reducible exact uu4 | with_reducible exact uu5 | with_reducible exact uu6 | with_reducible exact uu7 | with_reducible exact uu8 | with_reducible exact uu9)) hst hbk; clear hst hbk) | (go_at_call 35; (with_reducible refine (value_any _ bk 73 m hk.out (hI.ibk (by (first | with_reducible exact mm0 | with_reducible exact mm1 | with_reducible exact mm2 | with_reducible exact mm3 | with_reducible exact mm4 | with_reducible exact mm5 | with_reducible exact mm6 | with_reducible exact mm7 | with_reducible exact mm8 | with_reducible exact mm9))) _).mono ?_); rw [hvv.out]; rintro e w1 ⟨rfl, hst, hbk⟩; replace hI := hI.icall (by (first | with_reducible exact uu0 | with_reducible exact uu1 | with_reducible exact uu2 | with_reducible exact uu3 | with_reducible exact uu4 | with_reducible exact uu5 | with_reducible exact uu6 | with_reducible exact uu7 | with_reducible exact uu8 | with_reducible exact uu9)) hst hbk; clear hst hbk) | ((with_reducible refine wpList_build0_ia  (by first | with_reducible exact zi22 | with_reducible exact zi24 | with_reducible exact zi25 | with_reducible exact zi26 | with_reducible exact zi28 | with_reducible exact zi47 | with_reducible exact zi73) (by first | with_reducible exact kn22 | with_reducible exact kn24 | with_reducible exact kn25 | with_reducible exact kn26 | with_reducible exact kn28 | with_reducible exact kn47 | with_reducible exact kn73) ?_)) | ((with_reducible refine wpList_eq_same  (by with_unfolding_all rfl) (by with_unfolding_all rfl) (by first | with_reducible exact agg22 | with_reducible exact agg24 | with_reducible exact agg25 | with_reducible exact agg26 | with_reducible exact agg28 | with_reducible exact agg47 | with_reducible exact agg73) (by first | with_reducible exact flatT22 | with_reducible exact flatT24 | with_reducible exact flatT25 | with_reducible exact flatT26 | with_reducible exact flatT28) (by (repeat (first | rw [List.length_set] | rw [nau_len] | rw [sub_len] | rw [spl_len])) <;> omega) ?_)))
    go_ret
    exact ⟨rfl, hI.below⟩
  · replace hvv := hvv.out (.inr (by simpa using c3))
    go_wp2_with (first | ((with_reducible refine wpList_on  (by with_unfolding_all rfl) ?_)) | (go_at_call 33; (with_reducible refine (rights_any _ bk 73 m hk.out (hI.ibk (by (first | with_reducible exact mm0 | with_reducible exact mm1 | with_reducible exact mm2 | with_reducible exact mm3 | with_reducible exact mm4 | with_reducible exact mm5 | with_reducible exact mm6 | with_reducible exact mm7 | with_reducible exact mm8 | with_reducible exact mm9))) _ _).mono ?_); rw [hrr.out]; rintro e w1 ⟨rfl, hst, hbk⟩; replace hI := hI.icall (by (first | with_reducible exact uu0 | with_reducible exact uu1 | with_reducible exact uu2 | with_reducible exact uu3 | with_reducible exact uu4 | with_reducible exact uu5 | with_reducible exact uu6 | with_reducible exact uu7 | with_reducible exact uu8 | with_reducible exact uu9)) hst hbk; clear hst hbk) | (go_at_call 34; (with_reducible refine (bcell_any _ bk 73 m hk.out (hI.ibk (by (first | with_reducible exact mm0 | with_reducible exact mm1 | with_reducible exact mm2 | with_reducible exact mm3 | with_reducible exact mm4 | with_reducible exact mm5 | with_reducible exact mm6 | with_reducible exact mm7 | with_reducible exact mm8 | with_reducible exact mm9))) _ _).mono ?_); rw [hcv.out]; rintro e w1 ⟨rfl, hst, hbk⟩; replace hI := hI.icall (by (first | with_reducible exact uu0 | with_reducible exact uu1 | with_reducible exact uu2 | with_reducible exact uu3 | with_reducible exact uu4 | with_reducible exact uu5 | with_reducible exact uu6 | with_reducible exact uu7 | with_reducible exact uu8 | with_reducible exact uu9)) hst hbk; clear hst hbk) | (go_at_call 35; (with_reducible refine (value_any _ bk 73 m hk.out (hI.ibk (by (first | with_reducible exact mm0 | with_reducible exact mm1 | with_reducible exact mm2 | with_reducible exact mm3 | with_reducible exact mm4 | with_reducible exact mm5 | with_reducible exact mm6 | with_reducible exact mm7 | with_reducible exact mm8 | with_reducible exact mm9))) _).mono ?_); rw [hvv.out]; rintro e w1 ⟨rfl, hst, hbk⟩; replace hI := hI.icall (by (first | with_reducible exact uu0 | with_reducible exact uu1 | with_reducible exact uu2 | with_reducible exact uu3 | with_reducible exact uu4 | with_reducible exact uu5 | with_reducible exact uu6 | with_reducible exact uu7 | with_reducible exact uu8 | with_reducible exact uu9)) hst hbk; clear hst hbk) | ((with_reducible refine wpList_build0_ia  (by first | with_reducible exact zi22 | with_reducible exact zi24 | with_reducible exact zi25 | with_reducible exact zi26 | with_reducible exact zi28 | with_reducible exact zi47 | with_reducible exact zi73) (by first | with_reducible exact kn22 | with_reducible exact kn24 | with_reducible exact kn25 | with_reducible exact kn26 | with_reducible exact kn28 | with_reducible exact kn47 | with_reducible exact kn73) ?_)) | ((with_reducible refine wpList_eq_same  (by with_unfolding_all rfl) (by with_unfolding_all rfl) (by first | with_reducible exact agg22 | with_reducible exact agg24 | with_reducible exact agg25 | with_reducible exact agg26 | with_reducible exact agg28 | with_reducible exact agg47 | with_reducible exact agg73) (by first | with_reducible exact flatT22 | with_reducible exact flatT24 | with_reducible exact flatT25 | with_reducible exact flatT26 | with_reducible exact flatT28) (by (repeat (first | rw [List.length_set] | rw [nau_len] | rw [sub_len] | rw [spl_len])) <;> omega) ?_)))
    go_ret
    exact ⟨rfl, hI.below⟩
  · clear hvv
    go_wp2_with (first | ((with_reducible refine wpList_on  (by with_unfolding_all rfl) ?_)) | (go_at_call 33; (with_reducible refine (rights_any _ bk 73 m hk.out (hI.ibk (by (first | with_reducible exact mm0 | with_reducible exact mm1 | with_reducible exact mm2 | with_reducible exact mm3 | with_reducible exact mm4 | with_reducible exact mm5 | with_reducible exact mm6 | with_reducible exact mm7 | with_reducible exact mm8 | with_reducible exact mm9))) _ _).mono ?_); rw [hrr.out]; rintro e w1 ⟨rfl, hst, hbk⟩; replace hI := hI.icall (by (first | with_reducible exact uu0 | with_reducible exact uu1 | with_reducible exact uu2 | with_reducible exact uu3 | with_reducible exact uu4 | with_reducible exact uu5 | with_reducible exact uu6 | with_reducible exact uu7 | with_reducible exact uu8 | with_reducible exact uu9)) hst hbk; clear hst hbk) | (go_at_call 34; (with_reducible refine (bcell_any _ bk 73 m hk.out (hI.ibk (by (first | with_reducible exact mm0 | with_reducible exact mm1 | with_reducible exact mm2 | with_reducible exact mm3 | with_reducible exact mm4 | with_reducible exact mm5 | with_reducible exact mm6 | with_reducible exact mm7 | with_reducible exact mm8 | with_reducible exact mm9))) _ _).mono ?_); rw [hcv.out]; rintro e w1 ⟨rfl, hst, hbk⟩; replace hI := hI.icall (by (first | with_reducible exact uu0 | with_reducible exact uu1 | with_reducible exact uu2 | with_reducible exact uu3 | with_reducible exact uu4 | with_reducible exact uu5 | with_reducible exact uu6 | with_reducible exact uu7 | with_reducible exact uu8 | with_reducible exact uu9)) hst hbk; clear hst hbk) | ((with_reducible refine wpList_build0_ia  (by first | with_reducible exact zi22 | with_reducible exact zi24 | with_reducible exact zi25 | with_reducible exact zi26 | with_reducible exact zi28 | with_reducible exact zi47 | with_reducible exact zi73) (by first | with_reducible exact kn22 | with_reducible exact kn24 | with_reducible exact kn25 | with_reducible exact kn26 | with_reducible exact kn28 | with_reducible exact kn47 | with_reducible exact kn73) ?_)) | ((with_reducible refine wpList_eq_same  (by with_unfolding_all rfl) (by with_unfolding_all rfl) (by first | with_reducible exact agg22 | with_reducible exact agg24 | with_reducible exact agg25 | with_reducible exact agg26 | with_reducible exact agg28 | with_reducible exact agg47 | with_reducible exact agg73) (by first | with_reducible exact flatT22 | with_reducible exact flatT24 | with_reducible exact flatT25 | with_reducible exact flatT26 | with_reducible exact flatT28) (by (repeat (first | rw [List.length_set] | rw [nau_len] | rw [sub_len] | rw [spl_len])) <;> omega) ?_)))
    go_ret
    exact ⟨rfl, hI.below⟩
  · clear hvv
    go_wp2_with (first | ((with_reducible refine wpList_on  (by with_unfolding_all rfl) ?_)) | (go_at_call 33; (with_reducible refine (rights_any _ bk 73 m hk.out (hI.ibk (by (first | with_reducible exact mm0 | with_reducible exact mm1 | with_reducible exact mm2 | with_reducible exact mm3 | with_reducible exact mm4 | with_reducible exact mm5 | with_reducible exact mm6 | with_reducible exact mm7 | with_reducible exact mm8 | with_reducible exact mm9))) _ _).mono ?_); rw [hrr.out]; rintro e w1 ⟨rfl, hst, hbk⟩; replace hI := hI.icall (by (first | with_reducible exact uu0 | with_reducible exact uu1 | with_reducible exact uu2 | with_reducible exact uu3 | with_reducible exact uu4 | with_reducible exact uu5 | with_reducible exact uu6 | with_reducible exact uu7 | with_reducible exact uu8 | with_reducible exact uu9)) hst hbk; clear hst hbk) | (go_at_call 34; (with_reducible refine (bcell_any _ bk 73 m hk.out (hI.ibk (by (first | with_reducible exact mm0 | with_reducible exact mm1 | with_reducible exact mm2 | with_reducible exact mm3 | with_reducible exact mm4 | with_reducible exact mm5 | with_reducible exact mm6 | with_reducible exact mm7 | with_reducible exact mm8 | with_reducible exact mm9))) _ _).mono ?_); rw [hcv.out]; rintro e w1 ⟨rfl, hst, hbk⟩; replace hI := hI.icall (by (first | with_reducible exact uu0 | with_reducible exact uu1 | with_reducible exact uu2 | with_reducible exact uu3 | with_reducible exact uu4 | with_reducible exact uu5 | with_reducible exact uu6 | with_reducible exact uu7 | with_reducible exact uu8 | with_reducible exact uu9)) hst hbk; clear hst hbk) | ((with_reducible refine wpList_build0_ia  (by first | with_reducible exact zi22 | with_reducible exact zi24 | with_reducible exact zi25 | with_reducible exact zi26 | with_reducible exact zi28 | with_reducible exact zi47 | with_reducible exact zi73) (by first | with_reducible exact kn22 | with_reducible exact kn24 | with_reducible exact kn25 | with_reducible exact kn26 | with_reducible exact kn28 | with_reducible exact kn47 | with_reducible exact kn73) ?_)) | ((with_reducible refine wpList_eq_same  (by with_unfolding_all rfl) (by with_unfolding_all rfl) (by first | with_reducible exact agg22 | with_reducible exact agg24 | with_reducible exact agg25 | with_reducible exact agg26 | with_reducible exact agg28 | with_reducible exact agg47 | with_reducible exact agg73) (by first | with_reducible exact flatT22 | with_reducible exact flatT24 | with_reducible exact flatT25 | with_reducible exact flatT26 | with_reducible exact flatT28) (by (repeat (first | rw [List.length_set] | rw [nau_len] | rw [sub_len] | rw [spl_len])) <;> omega) ?_)))
    go_ret
    exact ⟨rfl, hI.below⟩
set_option maxHeartbeats 6400000 in
theorem counts_good (w0 : World) (a : Option Addr) (len c : Nat) (row : Nat → List Int) (h : IArg w0 a len 174 row) (p k4 : Nat) (hlen20 : len ≤ 20) (hp5 : p < 5) (hk4 : k4 < 4) :
    Calls Try.prog 11 #[.slice a len c, .int .i64 p, .int .i64 k4] w0 fun e w' => e = .returned (.bool true) ∧ Below w0.heap.size w0 w' := by
  have hI := Inv.start w0
  have hz := nau_len 870
  have hn7 := nau_len 7
  have hb : decide ((20 : Int) < (len : Int)) = false := by simp; omega
  have hk0 := fS_bk (row := row) len (fun j hj => ⟨(h.row j hj).1, (h.row j hj).2.1⟩) len (Nat.le_refl _)
  have hk := Lib.hid hk0
  have hml := hk0.len
  have c1 : decide ((k4 : Int) < 0) = false := by simp
  have c2 : decide ((4 : Int) ≤ (k4 : Int)) = false := by simp; omega
  have c3 : decide ((p : Int) < 0) = false := by simp
  have c4 : decide ((5 : Int) ≤ (p : Int)) = false := by simp; omega
  clear hk0
  go_enter Try.func11, Try.ntmps11
  go_upto_region 6 with (first | ((with_reducible refine wpList_on  (by with_unfolding_all rfl) ?_)) | (go_at_call 31; refine (fit05 _).mono ?_; rintro e w1 ⟨rfl, hw1⟩; replace hI := hI.call hw1; clear hw1) | (go_at_call 32; (with_reducible refine (filled_any _ _ len _ row (h.later hI)).mono ?_); rintro e w1 ⟨bb, rfl, hJ⟩; replace hI := hI.seq hJ; simp only [List.cons_append, List.nil_append] at hI; clear hJ) | ((with_reducible refine wpList_alloc_ia hI (by first | with_reducible exact zi22 | with_reducible exact zi24 | with_reducible exact zi25 | with_reducible exact zi26 | with_reducible exact zi28 | with_reducible exact zi47 | with_reducible exact zi73) ?_); clear hI; intro bx w hI) | ((with_reducible refine wpList_store_iw hI (by with_unfolding_all rfl) (by with_unfolding_all rfl) (by first | with_reducible exact uu0 | with_reducible exact uu1 | with_reducible exact uu2 | with_reducible exact uu3 | with_reducible exact uu4 | with_reducible exact uu5 | with_reducible exact uu6 | with_reducible exact uu7 | with_reducible exact uu8 | with_reducible exact uu9) (by first | with_reducible exact agg22 | with_reducible exact agg24 | with_reducible exact agg25 | with_reducible exact agg26 | with_reducible exact agg28 | with_reducible exact agg47 | with_reducible exact agg73) (by (repeat (first | rw [List.length_set] | rw [nau_len] | rw [sub_len] | rw [spl_len])) <;> omega) (by (repeat (first | rw [List.length_set] | rw [nau_len] | rw [sub_len] | rw [spl_len])) <;> omega) ?_); clear hI; intro w hI))
  (try simp only [Act.put])
  obtain ⟨b8, bk, e8, ek⟩ := nmc hI
  subst e8 ek
  clear h hb
  generalize fS row len = m at *
  go_upto_region 9 with fail
  (try simp only [Act.put, List.setIfInBounds_toArray, List.set_cons_succ, List.set_cons_zero])
  clear c1 c2 c3 c4
  have hbc := Lib.hid fun o => bCell_num hk.out o (k4 : Int)
  have hvb := Lib.hid fun j => vTo_bound hk.out (k4 : Int) j
  have hv0 : Hid (vTo m k4 0 = 0) := Lib.hid rfl
  go_wp2_with fail
  go_loopg [9, 10, 11, 67] 5 (fun kk s9 s10 s11 i wr => ∃ l : Nat, kk = 5 - l ∧ l ≤ 5 ∧ i = .int .i64 l ∧ s9 = .int .i64 (vTo m k4 l) ∧ Inv [] w0 wr [ib b8 47 m, ib bk 73 m])
  case atStart => exact ⟨0, rfl, by omega, rfl, by rw [hv0.out], hI⟩
  case round =>
    clear hI
    obtain ⟨l, rfl, hl, rfl, rfl, hI⟩ := hrel
    by_cases hl5 : l < 5
    · have hs : Hid (vTo m k4 (l + 1) = vTo m k4 l + (gi (bCell m l k4) 0 - gi (bCell m l k4) 1)) := Lib.hid rfl
      obtain ⟨cl, cn⟩ := hbc.out (l : Int)
      obtain ⟨v0, v1⟩ := hvb.out l
      have z0 : -5497558138880 ≤ vTo m k4 l := by omega
      have z1 : vTo m k4 l ≤ 5497558138880 := by omega
      clear v0 v1
      obtain ⟨c, hc⟩ : ∃ c, c = bCell m l k4 := ⟨_, rfl⟩
      rw [← hc] at hs cl cn
      have hcv := Lib.hid hc.symm
      clear hc
      obtain ⟨a0, a1⟩ := cn 0
      obtain ⟨a2, a3⟩ := cn 1
      clear cn hv0
      generalize vTo m k4 l = s at *
      go_upto_region 13 with (first | ((with_reducible refine wpList_load_iw hI (by with_unfolding_all rfl) (by first | with_reducible exact mm0 | with_reducible exact mm1 | with_reducible exact mm2 | with_reducible exact mm3 | with_reducible exact mm4 | with_reducible exact mm5 | with_reducible exact mm6 | with_reducible exact mm7 | with_reducible exact mm8 | with_reducible exact mm9) (by first | with_reducible exact agg22 | with_reducible exact agg24 | with_reducible exact agg25 | with_reducible exact agg26 | with_reducible exact agg28 | with_reducible exact agg47 | with_reducible exact agg73) (by (repeat (first | rw [List.length_set] | rw [nau_len] | rw [sub_len] | rw [spl_len])) <;> omega) ?_)) | ((with_reducible refine wpList_alloc_ia hI (by first | with_reducible exact zi22 | with_reducible exact zi24 | with_reducible exact zi25 | with_reducible exact zi26 | with_reducible exact zi28 | with_reducible exact zi47 | with_reducible exact zi73) ?_); clear hI; intro bx w hI) | ((with_reducible refine wpList_store_iw hI (by with_unfolding_all rfl) (by with_unfolding_all rfl) (by first | with_reducible exact uu0 | with_reducible exact uu1 | with_reducible exact uu2 | with_reducible exact uu3 | with_reducible exact uu4 | with_reducible exact uu5 | with_reducible exact uu6 | with_reducible exact uu7 | with_reducible exact uu8 | with_reducible exact uu9) (by first | with_reducible exact agg22 | with_reducible exact agg24 | with_reducible exact agg25 | with_reducible exact agg26 | with_reducible exact agg28 | with_reducible exact agg47 | with_reducible exact agg73) (by (repeat (first | rw [List.length_set] | rw [nau_len] | rw [sub_len] | rw [spl_len])) <;> omega) (by (repeat (first | rw [List.length_set] | rw [nau_len] | rw [sub_len] | rw [spl_len])) <;> omega) ?_); clear hI; intro w hI) | (go_at_call 36; (with_reducible refine (lcell_any _ m hk.out l k4 hl5 hk4).mono ?_); rw [hcv.out]; rintro e w1 ⟨rfl, hw1⟩; replace hI := hI.call hw1; clear hw1))
      (try simp only [Act.put, List.setIfInBounds_toArray, List.set_cons_succ, List.set_cons_zero])
      (refine wp_region_reg (C := fun w' => Inv _ _ w' _) [] (fun w' => Inv _ _ w' _) hI.drew (fun _ h => h) mixed (by kernel_rfl) ?_; clear hI; (repeat (first | ((with_reducible refine wpReg_skip (by with_unfolding_all rfl) ?_); simp only [Act.put, List.setIfInBounds_toArray, List.set_cons_succ, List.set_cons_zero]) | ((with_reducible apply wpReg_read); rfl; rfl; (focus ((intro w hI0; have hI : Inv _ _ w _ := hI0; clear hI0); go_wp2_with (first | ((with_reducible refine wpList_load_iw hI (by with_unfolding_all rfl) (by first | with_reducible exact mm0 | with_reducible exact mm1 | with_reducible exact mm2 | with_reducible exact mm3 | with_reducible exact mm4 | with_reducible exact mm5 | with_reducible exact mm6 | with_reducible exact mm7 | with_reducible exact mm8 | with_reducible exact mm9) (by first | with_reducible exact agg22 | with_reducible exact agg24 | with_reducible exact agg25 | with_reducible exact agg26 | with_reducible exact agg28 | with_reducible exact agg47 | with_reducible exact agg73) (by (repeat (first | rw [List.length_set] | rw [nau_len] | rw [sub_len] | rw [spl_len])) <;> omega) ?_)) | ((with_reducible refine wpList_load_ia hI (by with_unfolding_all rfl) (by first | with_reducible exact mm0 | with_reducible exact mm1 | with_reducible exact mm2 | with_reducible exact mm3 | with_reducible exact mm4 | with_reducible exact mm5 | with_reducible exact mm6 | with_reducible exact mm7 | with_reducible exact mm8 | with_reducible exact mm9) (by first | with_reducible exact agg22 | with_reducible exact agg24 | with_reducible exact agg25 | with_reducible exact agg26 | with_reducible exact agg28 | with_reducible exact agg47 | with_reducible exact agg73) (by (repeat (first | rw [List.length_set] | rw [nau_len] | rw [sub_len] | rw [spl_len])) <;> omega) ?_)) | ((with_reducible refine wpList_load_i1 hI (by with_unfolding_all rfl) (by first | with_reducible exact mm0 | with_reducible exact mm1 | with_reducible exact mm2 | with_reducible exact mm3 | with_reducible exact mm4 | with_reducible exact mm5 | with_reducible exact mm6 | with_reducible exact mm7 | with_reducible exact mm8 | with_reducible exact mm9) (by first | with_reducible exact one3 | with_reducible exact one4 | with_reducible exact one31) (by (repeat (first | rw [List.length_set] | rw [nau_len] | rw [sub_len] | rw [spl_len])) <;> omega) ?_)) | (go_at_call 34; (with_reducible refine (bcell_any _ bk 73 m hk.out (hI.ibk (by (first | with_reducible exact mm0 | with_reducible exact mm1 | with_reducible exact mm2 | with_reducible exact mm3 | with_reducible exact mm4 | with_reducible exact mm5 | with_reducible exact mm6 | with_reducible exact mm7 | with_reducible exact mm8 | with_reducible exact mm9))) _ _).mono ?_); rw [hcv.out]; rintro e w1 ⟨rfl, hst, hbk⟩; replace hI := hI.icall (by (first | with_reducible exact uu0 | with_reducible exact uu1 | with_reducible exact uu2 | with_reducible exact uu3 | with_reducible exact uu4 | with_reducible exact uu5 | with_reducible exact uu6 | with_reducible exact uu7 | with_reducible exact uu8 | with_reducible exact uu9)) hst hbk; clear hst hbk) | (go_at_call 36; (with_reducible refine (lcell_any _ m hk.out q k4 hq5 hk4).mono ?_); rw [hcq.out]; rintro e w1 ⟨rfl, hw1⟩; replace hI := hI.call hw1; clear hw1)); (try simp only [Act.put, List.setIfInBounds_toArray, List.set_cons_succ, List.set_cons_zero]); exact ⟨rfl, rfl, hI⟩)); (first | exact ⟨_, rfl⟩ | exact ⟨undef, rfl⟩)) | ((with_reducible apply wpReg_pure); rfl; rfl; (focus (intro D w hD hE; have hI : Inv _ _ w _ := hE; (try simp only [List.eraseIdx_cons_succ, List.eraseIdx_cons_zero] at hI); go_wp2_with (first | ((with_reducible refine wpList_ne_same  (by with_unfolding_all rfl) (by with_unfolding_all rfl) (by first | with_reducible exact agg22 | with_reducible exact agg24 | with_reducible exact agg25 | with_reducible exact agg26 | with_reducible exact agg28 | with_reducible exact agg47 | with_reducible exact agg73) (by first | with_reducible exact flatT22 | with_reducible exact flatT24 | with_reducible exact flatT25 | with_reducible exact flatT26 | with_reducible exact flatT28) (by (repeat (first | rw [List.length_set] | rw [nau_len] | rw [sub_len] | rw [spl_len])) <;> omega) ?_)) | (with_reducible refine wpList_field_ia (by with_unfolding_all rfl) st24 fs24 ft24 fo24 agg22 ?_) | ((with_reducible refine wpList_index_i1  (by with_unfolding_all rfl) (by with_unfolding_all rfl) (by first | with_reducible exact arr22 | with_reducible exact arr25 | with_reducible exact arr26) (by first | with_reducible exact one3 | with_reducible exact one4 | with_reducible exact one31) (by omega) (by omega) (by (repeat (first | rw [List.length_set] | rw [nau_len] | rw [sub_len] | rw [spl_len])) <;> omega) ?_))); (try simp only [Act.put, List.setIfInBounds_toArray, List.set_cons_succ, List.set_cons_zero]); exact ⟨rfl, rfl, hD⟩)); (first | exact ⟨_, rfl⟩ | exact ⟨undef, rfl⟩)))); ((with_reducible refine wpReg_nil ?_); intro w hI0; have hI : Inv _ _ w _ := hI0; clear hI0))
      go_wp2_with (first | ((with_reducible refine wpList_load_i1 hI (by with_unfolding_all rfl) (by first | with_reducible exact mm0 | with_reducible exact mm1 | with_reducible exact mm2 | with_reducible exact mm3 | with_reducible exact mm4 | with_reducible exact mm5 | with_reducible exact mm6 | with_reducible exact mm7 | with_reducible exact mm8 | with_reducible exact mm9) (by first | with_reducible exact one3 | with_reducible exact one4 | with_reducible exact one31) (by (repeat (first | rw [List.length_set] | rw [nau_len] | rw [sub_len] | rw [spl_len])) <;> omega) ?_)))
      go_roundg (5 - (l + 1))
      case measure => omega
      case rel => exact ⟨l + 1, rfl, by omega, by go_num, by rw [hs.out], hI.sub (.cons _ (.refl _))⟩
    · obtain rfl : l = 5 := by omega
      obtain ⟨vv, hvv⟩ : ∃ vv, Hid (vTo m k4 5 = vv) := ⟨_, Lib.hid rfl⟩
      rw [hvv.out]
      clear hvb hv0
      have hcn := Lib.hid (allC_num hk.out k4 5 (Nat.le_refl _))
      have hat := Lib.hid (allC_at hk.out k4 5 (Nat.le_refl _))
      obtain ⟨cs, hcs⟩ : ∃ cs, cs = allC m k4 5 := ⟨_, rfl⟩
      obtain ⟨x, hx⟩ : ∃ x, x = sub m (p * 174) 174 := ⟨_, rfl⟩
      have hxg : Hid (∀ i, i < 174 → gi x i = gi m (p * 174 + i)) := Lib.hid fun i hi => by rw [hx, gi_sub _ _ _ _ hi]
      have hxh : Hid (∀ i, i < 5 → 0 ≤ gi x (29 + i)) := Lib.hid fun i hi => by
        have := (hk.out.row p hp5).1
        rw [← hx] at this
        exact (leftB_of ((rowB_of this).2.2 i hi)).1
      have hrr : Hid (rightsF m p k4 = rS cs x p 5) := Lib.hid (by rw [rights_eq hp5, hcs, hx])
      rw [← hcs] at hcn hat
      have hrb := Lib.hid (rS_bound hcn.out x p)
      have hr0 : Hid (rS cs x p 0 = 0) := Lib.hid rfl
      clear hcs hx
      go_upto_region 18 with fail
      (try simp only [Act.put, List.setIfInBounds_toArray, List.set_cons_succ, List.set_cons_zero])
      go_wp2_with fail
      go_loopg [12, 13, 14, 15, 88] 5 (fun kk s12 s13 s14 s15 i wr => ∃ l : Nat, kk = 5 - l ∧ l ≤ 5 ∧ i = .int .i64 l ∧ s12 = .int .i64 (rS cs x p l) ∧ Inv [] w0 wr [ib b8 47 m, ib bk 73 m])
      case atStart => exact ⟨0, rfl, by omega, rfl, by rw [hr0.out], hI⟩
      case round =>
        clear hI hl hl5
        obtain ⟨l, rfl, hl, rfl, rfl, hI⟩ := hrel
        by_cases hl5 : l < 5
        · have hl5' : (l : Int) < 5 := by omega
          have hp5' : (p : Int) < 5 := by omega
          have hln : (l : Int).toNat = l := by simp
          have hpn : (p : Int).toNat = p := by simp
          have hs : Hid (rS cs x p (l + 1) = rS cs x p l + (if ownP x p l = true then term cs l else 0)) := Lib.hid rfl
          have hg := hxg.out (29 + l) (by omega)
          have hg0 := hxh.out l hl5
          rw [hg, ← Nat.add_assoc] at hg0
          have hown : Hid (ownP x p l = (decide ((l : Int) = p) || decide (0 < gi m (p * 174 + 29 + l)))) := Lib.hid (by unfold ownP; rw [hg, Nat.add_assoc])
          clear hg
          by_cases hskip : l ≠ p ∧ gi m (p * 174 + 29 + l) = 0
          · have g1 : ((l : Int) != (p : Int)) = true := by simp; omega
            have g2 : (gi m (p * 174 + 29 + l) == 0) = true := by simp [hskip.2]
            have hs2 : Hid (rS cs x p (l + 1) = rS cs x p l) := Lib.hid (by
              have e1 : decide ((l : Int) = p) = false := by simp; omega
              have e2 : decide (0 < gi m (p * 174 + 29 + l)) = false := by simp; omega
              rw [hs.out, hown.out, e1, e2]; simp)
            clear hskip hg0
            generalize rS cs x p l = s at *
            go_wp2_with (first | ((with_reducible refine wpList_on  (by with_unfolding_all rfl) ?_)) | ((with_reducible refine wpList_load_i1 hI (by with_unfolding_all rfl) (by first | with_reducible exact mm0 | with_reducible exact mm1 | with_reducible exact mm2 | with_reducible exact mm3 | with_reducible exact mm4 | with_reducible exact mm5 | with_reducible exact mm6 | with_reducible exact mm7 | with_reducible exact mm8 | with_reducible exact mm9) (by first | with_reducible exact one3 | with_reducible exact one4 | with_reducible exact one31) (by (repeat (first | rw [List.length_set] | rw [nau_len] | rw [sub_len] | rw [spl_len])) <;> omega) ?_)))
            go_roundg (5 - (l + 1))
            case measure => omega
            case rel => exact ⟨l + 1, rfl, by omega, by go_num, by rw [hs2.out], hI⟩
          · have hcase : ((l : Int) != (p : Int)) = false ∨ (((l : Int) != (p : Int)) = true ∧ (gi m (p * 174 + 29 + l) == 0) = false) := by
              by_cases e : l = p
              · left; simp [e]
              · right; exact ⟨by simp; omega, by simp; exact fun e2 => hskip ⟨e, e2⟩⟩
            have hs2 : Hid (rS cs x p (l + 1) = rS cs x p l + term cs l) := Lib.hid (by
              have e : (decide ((l : Int) = p) || decide (0 < gi m (p * 174 + 29 + l))) = true := by
                by_cases e : l = p
                · simp [e]
                · have : gi m (p * 174 + 29 + l) ≠ 0 := fun e2 => hskip ⟨e, e2⟩
                  simp; omega
              rw [hs.out, hown.out, e, if_pos rfl])
            obtain ⟨v0, v1⟩ := hrb.out l
            have z0 : -32985348833280 ≤ rS cs x p l := by omega
            have z1 : rS cs x p l ≤ 32985348833280 := by omega
            obtain ⟨cl, cn⟩ := hbc.out (l : Int)
            have hcl0 := Lib.hid fun f hf => hat.out l f hl5 hf
            obtain ⟨c, hc⟩ : ∃ c, c = bCell m l k4 := ⟨_, rfl⟩
            rw [← hc] at hcl0 cl cn
            have hcv := Lib.hid hc.symm
            obtain ⟨a0, a1⟩ := cn 0
            obtain ⟨a2, a3⟩ := cn 1
            replace cn := Lib.hid cn
            have ht : Hid (term cs l = (gi c 0 - gi c 1) + rIn cs l 5) := Lib.hid (by unfold term; have e0 := hcl0.out 0 (by omega); rw [Nat.add_zero] at e0; rw [← e0, ← hcl0.out 1 (by omega)])
            clear hskip hg0 hc v0 v1 hs hown
            generalize rS cs x p l = s at *
            go_upto_region 21 with fail
            (try simp only [Act.put, List.setIfInBounds_toArray, List.set_cons_succ, List.set_cons_zero])
            go_cut [102] (fun u wx => u = .bool false ∧ Inv [] w0 wx [ib b8 47 m, ib bk 73 m])
            case first =>
              rcases hcase with g1 | ⟨g1, g2⟩
              · go_wp2_with (first | ((with_reducible refine wpList_on  (by with_unfolding_all rfl) ?_)) | ((with_reducible refine wpList_load_i1 hI (by with_unfolding_all rfl) (by first | with_reducible exact mm0 | with_reducible exact mm1 | with_reducible exact mm2 | with_reducible exact mm3 | with_reducible exact mm4 | with_reducible exact mm5 | with_reducible exact mm6 | with_reducible exact mm7 | with_reducible exact mm8 | with_reducible exact mm9) (by first | with_reducible exact one3 | with_reducible exact one4 | with_reducible exact one31) (by (repeat (first | rw [List.length_set] | rw [nau_len] | rw [sub_len] | rw [spl_len])) <;> omega) ?_)))
                go_meet
                case rel => exact ⟨rfl, hI⟩
              · go_wp2_with (first | ((with_reducible refine wpList_on  (by with_unfolding_all rfl) ?_)) | ((with_reducible refine wpList_load_i1 hI (by with_unfolding_all rfl) (by first | with_reducible exact mm0 | with_reducible exact mm1 | with_reducible exact mm2 | with_reducible exact mm3 | with_reducible exact mm4 | with_reducible exact mm5 | with_reducible exact mm6 | with_reducible exact mm7 | with_reducible exact mm8 | with_reducible exact mm9) (by first | with_reducible exact one3 | with_reducible exact one4 | with_reducible exact one31) (by (repeat (first | rw [List.length_set] | rw [nau_len] | rw [sub_len] | rw [spl_len])) <;> omega) ?_)))
                go_meet
                case rel => exact ⟨rfl, hI⟩
            case rest =>
              clear hI hcase
              obtain ⟨rfl, hI⟩ := hcut
              go_upto_region 23 with (first | ((with_reducible refine wpList_load_iw hI (by with_unfolding_all rfl) (by first | with_reducible exact mm0 | with_reducible exact mm1 | with_reducible exact mm2 | with_reducible exact mm3 | with_reducible exact mm4 | with_reducible exact mm5 | with_reducible exact mm6 | with_reducible exact mm7 | with_reducible exact mm8 | with_reducible exact mm9) (by first | with_reducible exact agg22 | with_reducible exact agg24 | with_reducible exact agg25 | with_reducible exact agg26 | with_reducible exact agg28 | with_reducible exact agg47 | with_reducible exact agg73) (by (repeat (first | rw [List.length_set] | rw [nau_len] | rw [sub_len] | rw [spl_len])) <;> omega) ?_)) | ((with_reducible refine wpList_alloc_ia hI (by first | with_reducible exact zi22 | with_reducible exact zi24 | with_reducible exact zi25 | with_reducible exact zi26 | with_reducible exact zi28 | with_reducible exact zi47 | with_reducible exact zi73) ?_); clear hI; intro bx w hI) | ((with_reducible refine wpList_store_iw hI (by with_unfolding_all rfl) (by with_unfolding_all rfl) (by first | with_reducible exact uu0 | with_reducible exact uu1 | with_reducible exact uu2 | with_reducible exact uu3 | with_reducible exact uu4 | with_reducible exact uu5 | with_reducible exact uu6 | with_reducible exact uu7 | with_reducible exact uu8 | with_reducible exact uu9) (by first | with_reducible exact agg22 | with_reducible exact agg24 | with_reducible exact agg25 | with_reducible exact agg26 | with_reducible exact agg28 | with_reducible exact agg47 | with_reducible exact agg73) (by (repeat (first | rw [List.length_set] | rw [nau_len] | rw [sub_len] | rw [spl_len])) <;> omega) (by (repeat (first | rw [List.length_set] | rw [nau_len] | rw [sub_len] | rw [spl_len])) <;> omega) ?_); clear hI; intro w hI) | (go_at_call 36; (with_reducible refine (lcell_any _ m hk.out l k4 hl5 hk4).mono ?_); rw [hcv.out]; rintro e w1 ⟨rfl, hw1⟩; replace hI := hI.call hw1; clear hw1))
              (try simp only [Act.put, List.setIfInBounds_toArray, List.set_cons_succ, List.set_cons_zero])
              (obtain ⟨b14, hbx⟩ : ∃ b, b = bx := ⟨_, rfl⟩; subst hbx)
              go_wp2_with (first | ((with_reducible refine wpList_load_i1 hI (by with_unfolding_all rfl) (by first | with_reducible exact mm0 | with_reducible exact mm1 | with_reducible exact mm2 | with_reducible exact mm3 | with_reducible exact mm4 | with_reducible exact mm5 | with_reducible exact mm6 | with_reducible exact mm7 | with_reducible exact mm8 | with_reducible exact mm9) (by first | with_reducible exact one3 | with_reducible exact one4 | with_reducible exact one31) (by (repeat (first | rw [List.length_set] | rw [nau_len] | rw [sub_len] | rw [spl_len])) <;> omega) ?_)))
              have y0 : -34084860461056 ≤ s + (gi c 0 - gi c 1) := by omega
              have y1 : s + (gi c 0 - gi c 1) ≤ 34084860461056 := by omega
              have hs3 : Hid (rS cs x p (l + 1) = s + (gi c 0 - gi c 1) + rIn cs l 5) := Lib.hid (by rw [hs2.out, ht.out, Int.add_assoc])
              have hi0 : Hid (rIn cs l 0 = 0) := Lib.hid rfl
              have hib := Lib.hid (rIn_bound hcn.out l)
              clear z0 z1 a0 a1 a2 a3 hs2 ht
              generalize s + (gi c 0 - gi c 1) = s1 at *
              go_loopg [12, 15, 114] 5 (fun kk s12 s15 i wr => ∃ q : Nat, kk = 5 - q ∧ q ≤ 5 ∧ i = .int .i64 q ∧ s12 = .int .i64 (s1 + rIn cs l q) ∧ Inv [] w0 wr [ib b14 24 c, ib b8 47 m, ib bk 73 m])
              case atStart => exact ⟨0, rfl, by omega, rfl, by rw [hi0.out, Int.add_zero], hI⟩
              case round =>
                clear hI
                obtain ⟨q, rfl, hq, rfl, rfl, hI⟩ := hrel
                by_cases hq5 : q < 5
                · have hq5' : (q : Int) < 5 := by omega
                  have hqn : (q : Int).toNat = q := by simp
                  have hr : Hid (rIn cs l (q + 1) = rIn cs l q + (gi cs (q * 7 + 2 + l) - gi cs (l * 7 + 2 + q))) := Lib.hid rfl
                  obtain ⟨v0, v1⟩ := hib.out q
                  have z0 : -5497558138880 ≤ rIn cs l q := by omega
                  have z1 : rIn cs l q ≤ 5497558138880 := by omega
                  obtain ⟨cql, cqn⟩ := hbc.out (q : Int)
                  have e1 := hat.out q (2 + l) hq5 (by omega)
                  have e2 := hcl0.out (2 + q) (by omega)
                  obtain ⟨d, hd⟩ : ∃ d, d = bCell m q k4 := ⟨_, rfl⟩
                  rw [← hd] at cql cqn e1
                  have hcq := Lib.hid hd.symm
                  have hsl : (sub d 2 5).length = 5 := by rw [sub_len]; omega
                  have e3 : gi (sub d 2 5) l = gi d (2 + l) := gi_sub _ _ _ _ hl5
                  have hr2 : Hid (rIn cs l (q + 1) = rIn cs l q + (gi (sub d 2 5) l - gi c (2 + q))) := Lib.hid (by rw [hr.out, e3, ← e1, ← e2, Nat.add_assoc, Nat.add_assoc])
                  obtain ⟨a0, a1⟩ := cqn (2 + l)
                  rw [← e3] at a0 a1
                  obtain ⟨a2, a3⟩ := cn.out (2 + q)
                  clear v0 v1 hd cqn e1 e2 e3 hr hcv
                  have hcv := hcq
                  generalize rIn cs l q = t at *
                  go_upto_region 27 with fail
                  (try simp only [Act.put, List.setIfInBounds_toArray, List.set_cons_succ, List.set_cons_zero])
                  (refine wp_region_reg3 (C := fun w' => Inv _ _ w' _) [] (fun w' => Inv _ _ w' _) hI.drew (fun _ h => h) mixed (by kernel_rfl) ?_; clear hI; (repeat (first | ((with_reducible refine wpReg_skip (by with_unfolding_all rfl) ?_); simp only [Act.put, List.setIfInBounds_toArray, List.set_cons_succ, List.set_cons_zero]) | ((with_reducible apply wpReg_read); rfl; rfl; (focus ((intro w hI0; have hI : Inv _ _ w _ := hI0; clear hI0); go_wp2_with (first | ((with_reducible refine wpList_load_iw hI (by with_unfolding_all rfl) (by first | with_reducible exact mm0 | with_reducible exact mm1 | with_reducible exact mm2 | with_reducible exact mm3 | with_reducible exact mm4 | with_reducible exact mm5 | with_reducible exact mm6 | with_reducible exact mm7 | with_reducible exact mm8 | with_reducible exact mm9) (by first | with_reducible exact agg22 | with_reducible exact agg24 | with_reducible exact agg25 | with_reducible exact agg26 | with_reducible exact agg28 | with_reducible exact agg47 | with_reducible exact agg73) (by (repeat (first | rw [List.length_set] | rw [nau_len] | rw [sub_len] | rw [spl_len])) <;> omega) ?_)) | ((with_reducible refine wpList_load_ia hI (by with_unfolding_all rfl) (by first | with_reducible exact mm0 | with_reducible exact mm1 | with_reducible exact mm2 | with_reducible exact mm3 | with_reducible exact mm4 | with_reducible exact mm5 | with_reducible exact mm6 | with_reducible exact mm7 | with_reducible exact mm8 | with_reducible exact mm9) (by first | with_reducible exact agg22 | with_reducible exact agg24 | with_reducible exact agg25 | with_reducible exact agg26 | with_reducible exact agg28 | with_reducible exact agg47 | with_reducible exact agg73) (by (repeat (first | rw [List.length_set] | rw [nau_len] | rw [sub_len] | rw [spl_len])) <;> omega) ?_)) | ((with_reducible refine wpList_load_i1 hI (by with_unfolding_all rfl) (by first | with_reducible exact mm0 | with_reducible exact mm1 | with_reducible exact mm2 | with_reducible exact mm3 | with_reducible exact mm4 | with_reducible exact mm5 | with_reducible exact mm6 | with_reducible exact mm7 | with_reducible exact mm8 | with_reducible exact mm9) (by first | with_reducible exact one3 | with_reducible exact one4 | with_reducible exact one31) (by (repeat (first | rw [List.length_set] | rw [nau_len] | rw [sub_len] | rw [spl_len])) <;> omega) ?_)) | (go_at_call 34; (with_reducible refine (bcell_any _ bk 73 m hk.out (hI.ibk (by (first | with_reducible exact mm0 | with_reducible exact mm1 | with_reducible exact mm2 | with_reducible exact mm3 | with_reducible exact mm4 | with_reducible exact mm5 | with_reducible exact mm6 | with_reducible exact mm7 | with_reducible exact mm8 | with_reducible exact mm9))) _ _).mono ?_); rw [hcv.out]; rintro e w1 ⟨rfl, hst, hbk⟩; replace hI := hI.icall (by (first | with_reducible exact uu0 | with_reducible exact uu1 | with_reducible exact uu2 | with_reducible exact uu3 | with_reducible exact uu4 | with_reducible exact uu5 | with_reducible exact uu6 | with_reducible exact uu7 | with_reducible exact uu8 | with_reducible exact uu9)) hst hbk; clear hst hbk) | (go_at_call 36; (with_reducible refine (lcell_any _ m hk.out q k4 hq5 hk4).mono ?_); rw [hcq.out]; rintro e w1 ⟨rfl, hw1⟩; replace hI := hI.call hw1; clear hw1)); (try simp only [Act.put, List.setIfInBounds_toArray, List.set_cons_succ, List.set_cons_zero]); exact ⟨rfl, rfl, hI⟩)); (first | exact ⟨_, rfl⟩ | exact ⟨undef, rfl⟩)) | ((with_reducible apply wpReg_pure); rfl; rfl; (focus (intro D w hD hE; have hI : Inv _ _ w _ := hE; (try simp only [List.eraseIdx_cons_succ, List.eraseIdx_cons_zero] at hI); go_wp2_with (first | ((with_reducible refine wpList_ne_same  (by with_unfolding_all rfl) (by with_unfolding_all rfl) (by first | with_reducible exact agg22 | with_reducible exact agg24 | with_reducible exact agg25 | with_reducible exact agg26 | with_reducible exact agg28 | with_reducible exact agg47 | with_reducible exact agg73) (by first | with_reducible exact flatT22 | with_reducible exact flatT24 | with_reducible exact flatT25 | with_reducible exact flatT26 | with_reducible exact flatT28) (by (repeat (first | rw [List.length_set] | rw [nau_len] | rw [sub_len] | rw [spl_len])) <;> omega) ?_)) | (with_reducible refine wpList_field_ia (by with_unfolding_all rfl) st24 fs24 ft24 fo24 agg22 ?_) | ((with_reducible refine wpList_index_i1  (by with_unfolding_all rfl) (by with_unfolding_all rfl) (by first | with_reducible exact arr22 | with_reducible exact arr25 | with_reducible exact arr26) (by first | with_reducible exact one3 | with_reducible exact one4 | with_reducible exact one31) (by omega) (by omega) (by (repeat (first | rw [List.length_set] | rw [nau_len] | rw [sub_len] | rw [spl_len])) <;> omega) ?_))); (try simp only [Act.put, List.setIfInBounds_toArray, List.set_cons_succ, List.set_cons_zero]); exact ⟨rfl, rfl, hD⟩)); (first | exact ⟨_, rfl⟩ | exact ⟨undef, rfl⟩)))); ((with_reducible refine wpReg_nil ?_); intro w hI0; have hI : Inv _ _ w _ := hI0; clear hI0))
                  go_wp2_with fail
                  go_roundg (5 - (q + 1))
                  case measure => omega
                  case rel => exact ⟨q + 1, rfl, by omega, by go_num, by rw [hr2.out, Int.add_assoc], hI⟩
                · obtain rfl : q = 5 := by omega
                  go_wp2_with fail
                  go_roundg (5 - (l + 1))
                  case measure => omega
                  case rel => exact ⟨l + 1, rfl, by omega, by go_num, by rw [hs3.out], hI.sub (.cons _ (.refl _))⟩
        · obtain rfl : l = 5 := by omega
          obtain ⟨rr, hre⟩ : ∃ rr, rS cs x p 5 = rr := ⟨_, rfl⟩
          rw [hre]
          replace hrr : Hid (rightsF m p k4 = rr) := Lib.hid (by rw [hrr.out, hre])
          have e1 : (vv == vv) = true := by simp
          have e2 : (rr == rr) = true := by simp
          clear hre hrb hr0
          go_wp2_with (first | ((with_reducible refine wpList_on  (by with_unfolding_all rfl) ?_)) | (go_at_call 35; (with_reducible refine (value_any _ bk 73 m hk.out (hI.ibk (by (first | with_reducible exact mm0 | with_reducible exact mm1 | with_reducible exact mm2 | with_reducible exact mm3 | with_reducible exact mm4 | with_reducible exact mm5 | with_reducible exact mm6 | with_reducible exact mm7 | with_reducible exact mm8 | with_reducible exact mm9))) _).mono ?_); rw [hvv.out]; rintro e w1 ⟨rfl, hst, hbk⟩; replace hI := hI.icall (by (first | with_reducible exact uu0 | with_reducible exact uu1 | with_reducible exact uu2 | with_reducible exact uu3 | with_reducible exact uu4 | with_reducible exact uu5 | with_reducible exact uu6 | with_reducible exact uu7 | with_reducible exact uu8 | with_reducible exact uu9)) hst hbk; clear hst hbk) | (go_at_call 33; (with_reducible refine (rights_any _ bk 73 m hk.out (hI.ibk (by (first | with_reducible exact mm0 | with_reducible exact mm1 | with_reducible exact mm2 | with_reducible exact mm3 | with_reducible exact mm4 | with_reducible exact mm5 | with_reducible exact mm6 | with_reducible exact mm7 | with_reducible exact mm8 | with_reducible exact mm9))) _ _).mono ?_); rw [hrr.out]; rintro e w1 ⟨rfl, hst, hbk⟩; replace hI := hI.icall (by (first | with_reducible exact uu0 | with_reducible exact uu1 | with_reducible exact uu2 | with_reducible exact uu3 | with_reducible exact uu4 | with_reducible exact uu5 | with_reducible exact uu6 | with_reducible exact uu7 | with_reducible exact uu8 | with_reducible exact uu9)) hst hbk; clear hst hbk))
          go_ret
          exact ⟨rfl, hI.below⟩
theorem counts_walk (w0 : World) (a : Option Addr) (len c : Nat) (row : Nat → List Int) (h : IArg w0 a len 174 row) (who key : Int) :
    Calls Try.prog 11 #[.slice a len c, .int .i64 who, .int .i64 key] w0 fun e w' => e = .returned (.bool true) ∧ Below w0.heap.size w0 w' := by
  by_cases hbig : 20 < len
  · exact counts_big w0 a len c who key hbig
  · by_cases k0 : key < 0
    · exact counts_bad w0 a len c row h who key (by omega) (.inl ⟨by simp; omega, by simp; omega⟩) (.inr (.inl k0))
    · by_cases k4 : 4 ≤ key
      · exact counts_bad w0 a len c row h who key (by omega) (.inr (.inl ⟨by simp; omega, by simp; omega, by simp; omega, by simp; omega⟩)) (.inr (.inr k4))
      · by_cases p0 : who < 0
        · exact counts_bad w0 a len c row h who key (by omega) (.inr (.inr (.inl ⟨by simp; omega, by simp; omega, by simp; omega, by simp; omega, by simp; omega⟩))) (.inl (by simp [machB]; omega))
        · by_cases p5 : 5 ≤ who
          · exact counts_bad w0 a len c row h who key (by omega) (.inr (.inr (.inr ⟨by simp; omega, by simp; omega, by simp; omega, by simp; omega, by simp; omega, by simp; omega⟩))) (.inl (by simp [machB]; omega))
          · obtain ⟨p, rfl⟩ : ∃ p : Nat, who = p := ⟨who.toNat, by omega⟩
            obtain ⟨k, rfl⟩ : ∃ k : Nat, key = k := ⟨key.toNat, by omega⟩
            exact counts_good w0 a len c row h p k (by omega) (by omega) (by omega)
theorem counts_cells (w0 : World) (a : Option Addr) (len c : Nat) (row : Nat → List Value) (who key : Int) (h : SlArg w0 a len c (List.replicate 174 pInt) row) :
    Calls Try.prog 11 #[.slice a len c, .int .i64 who, .int .i64 key] w0 fun e w' => e = .returned (.bool true) ∧ Below w0.heap.size w0 w' := by
  obtain ⟨r, hr⟩ := h.ints
  exact counts_walk w0 a len c r hr who key
end Go.Proofs.Ythncfjfgjdeajaa
