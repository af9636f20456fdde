/-
  Operations that make memory, with the number of the new block and the heap's size told. Conditions: the form's own reach.
-/
import Derived.Test.YtckoiabainpamaaByt
namespace Go.Proofs.Ytckoiabainpamaa
open Go.RowKit
section
variable {P : Program} {ops : Array Oper} {Q : Exit → Act → World → Prop} {a : Act} {rest : List Oper} {T : List Nat} {w0 w : World} {m m1 : List Res} {dst : Option Tmp} {ty : TypeId} {pos : String} {af : Array Edge}

theorem wpList_make0_x {t e size bytes c : Nat} {kl kc : IntKind} {z : Value} {x y : Operand} {H : Nat} (hI : Inv T w0 w m) (hH : w.heap.size = H) (hT : SlT P t e size bytes z) (hx : a.eval x = .int kl 0) (hy : a.eval y = .int kc (c : Int)) (hb : bytes * c ≤ 281474976710656) (h63 : c ≤ maxLen)
    (k : ∀ w', Inv T w0 w' (osl e size (.slice (some ⟨H, 0, none⟩) 0 c) 0 [] :: m) → w'.heap.size = H + 1 → wpList P ops Q rest (a.put dst (.slice (some ⟨H, 0, none⟩) 0 c)) w') :
    wpList P ops Q (⟨dst, .makeSlice t x y, ty, pos, af, none⟩ :: rest) a w :=
  wpList_plain rfl fun K hK => by
    subst hH
    obtain ⟨i, hi, hz, rfl, rfl⟩ := hT.info
    have h63' : (c : Int) ≤ 9223372036854775807 := by
      have h := h63
      simp [maxLen] at h
      omega
    have hb' : (i.bytes : Int) * (c : Int) ≤ 281474976710656 := by
      have h : ((i.bytes * c : Nat) : Int) ≤ 281474976710656 := by omega
      rwa [Int.natCast_mul] at h
    have hr := run_make (P := P) w t e i z hT.und hi hz kl kc 0 c (by omega) (by omega) hb' h63'
    simp only [Int.toNat_natCast, Int.toNat_zero] at hr
    unfold Oper.wp execOp
    simp only [hx, hy, Sem.run_bind, hr, Result.andThen_ok, Sem.run_pure]
    refine hK _ _ (k _ (hI.new (step_of_grown (World.grownBy_alloc w _ none)) (World.ownsRow_made w _ c (Nat.zero_le _) h63 (size_madeCells _ _)) ?_ ?_) (by simp))
    · intro j hj
      have hj : j = w.heap.size := by simpa [osl, Value.ownBlock] using hj
      subst hj
      simp
    · simp [osl, Value.ownBlock]

theorem wpList_bslice_x {t e size bytes len : Nat} {z : Value} {parts : Array (Nat × Operand)} {cs : List Value} {H : Nat} (hI : Inv T w0 w m) (hH : w.heap.size = H) (hT : SlT P t e size bytes z) (hb : len * size ≤ 16777216) (hb2 : 0 < len)
    (hf : Instr.fill (fun i => some (i * size, size)) ((Array.range (len * size)).map (z.cells[· % z.cells.size]!)) (parts.map fun (i, x) => (i, a.eval x)).toList = some cs.toArray) (hl : cs.length = len * size)
    (k : ∀ w', Inv T w0 w' (osl e size (.slice (some ⟨H, 0, none⟩) len len) len cs :: m) → w'.heap.size = H + 1 → wpList P ops Q rest (a.put dst (.slice (some ⟨H, 0, none⟩) len len)) w') :
    wpList P ops Q (⟨dst, .buildSlice t len parts, ty, pos, af, none⟩ :: rest) a w :=
  wpList_plain rfl fun K hK => by
    subst hH
    obtain ⟨i, hi, hz, rfl, rfl⟩ := hT.info
    have hpos := hT.pos
    have hne : ¬ (len * i.size = 0) := by
      intro h
      rcases Nat.mul_eq_zero.1 h with h | h <;> omega
    have hb' : ¬ (len * i.size > 2 ^ 24) := by omega
    unfold Oper.wp execOp
    have hrun : (Instr.buildSlice t len (parts.map fun (i, x) => (i, a.eval x))).run P w = .ok (.slice (some ⟨w.heap.size, 0, none⟩) len len) (w.alloc (.cells cs.toArray e)) := by
      have hzv : (zeroValue e).run P w = .ok z w := by simp [zeroValue, typeInfo, hi, hz]
      simp only [Instr.buildSlice, Sem.run_bind, run_underlying hT.und, Result.andThen_ok, run_sizeOf' (show (P.info? e).map (·.size) = some i.size by rw [hi]; rfl), if_neg hb', if_neg hne, Sem.run_pure, hzv, hf]
      rfl
    simp only [Sem.run_bind, hrun, Result.andThen_ok, Sem.run_pure]
    refine hK _ _ (k _ ?_ (by simp))
    refine hI.new ⟨rfl, rfl, rfl, by simp, fun k hk _ => _root_.Go.heap_alloc_old w _ hk⟩ ?_ (by simp [osl, Value.ownBlock]) (by simp [osl, Value.ownBlock])
    refine ⟨hl, .inr ⟨w.heap.size, len, _, rfl, Nat.zero_le _, heap_alloc_new w _, Nat.le_refl _, ?_, ?_, ?_⟩⟩
    · simp only [maxLen]
      have : len * 1 ≤ len * i.size := Nat.mul_le_mul_left _ hpos
      omega
    · simp [hl]
    · simp [← hl]
theorem wpList_bslice1s_x {t e bytes : Nat} {z : Value} {x0 : Operand} {ao : Option Addr} {n c : Nat} {H : Nat} (hI : Inv T w0 w m) (hH : w.heap.size = H) (hT : SlT P t e 1 bytes z) (h0 : a.eval x0 = .slice ao n c)
    (k : ∀ w', Inv T w0 w' (osl e 1 (.slice (some ⟨H, 0, none⟩) 1 1) 1 [.slice ao n c] :: m) → w'.heap.size = H + 1 → wpList P ops Q rest (a.put dst (.slice (some ⟨H, 0, none⟩) 1 1)) w') :
    wpList P ops Q (⟨dst, .buildSlice t 1 #[(0, x0)], ty, pos, af, none⟩ :: rest) a w :=
  wpList_bslice_x hI hH hT (by decide) (by decide) (by simp [Instr.fill, h0, Value.cells, show Array.range 1 = #[0] from by decide]) (by rfl) k
theorem wpList_bslice2i_x {t e bytes : Nat} {z : Value} {kd : IntKind} {x0 x1 : Operand} {v0 v1 : Int} {H : Nat} (hI : Inv T w0 w m) (hH : w.heap.size = H) (hT : SlT P t e 1 bytes z) (h0 : a.eval x0 = .int kd v0) (h1 : a.eval x1 = .int kd v1)
    (k : ∀ w', Inv T w0 w' (osl e 1 (.slice (some ⟨H, 0, none⟩) 2 2) 2 [.int kd v0, .int kd v1] :: m) → w'.heap.size = H + 1 → wpList P ops Q rest (a.put dst (.slice (some ⟨H, 0, none⟩) 2 2)) w') :
    wpList P ops Q (⟨dst, .buildSlice t 2 #[(0, x0), (1, x1)], ty, pos, af, none⟩ :: rest) a w :=
  wpList_bslice_x hI hH hT (by decide) (by decide) (by simp [Instr.fill, h0, h1, Value.cells, show Array.range 2 = #[0, 1] from by decide]) (by rfl) k
theorem wpList_bslice4i_x {t e bytes : Nat} {z : Value} {kd : IntKind} {x0 x1 x2 x3 : Operand} {v0 v1 v2 v3 : Int} {H : Nat} (hI : Inv T w0 w m) (hH : w.heap.size = H) (hT : SlT P t e 1 bytes z) (h0 : a.eval x0 = .int kd v0) (h1 : a.eval x1 = .int kd v1) (h2 : a.eval x2 = .int kd v2) (h3 : a.eval x3 = .int kd v3)
    (k : ∀ w', Inv T w0 w' (osl e 1 (.slice (some ⟨H, 0, none⟩) 4 4) 4 [.int kd v0, .int kd v1, .int kd v2, .int kd v3] :: m) → w'.heap.size = H + 1 → wpList P ops Q rest (a.put dst (.slice (some ⟨H, 0, none⟩) 4 4)) w') :
    wpList P ops Q (⟨dst, .buildSlice t 4 #[(0, x0), (1, x1), (2, x2), (3, x3)], ty, pos, af, none⟩ :: rest) a w :=
  wpList_bslice_x hI hH hT (by decide) (by decide) (by simp [Instr.fill, h0, h1, h2, h3, Value.cells, show Array.range 4 = #[0, 1, 2, 3] from by decide]) (by rfl) k

/-- append where there is room -/
theorem wpList_append_x {m' : Res → List Res} {s x : Operand} {t e size bytes n q c0 c : Nat} {z : Value} {g : Nat} {ao : Option Addr} {xs news : List Value} {H : Nat} (hI : Inv T w0 w m) (hH : w.heap.size = H) (hs : a.eval s = .slice (some ⟨g, 0, none⟩) n c0) (hx : a.eval x = .slice ao q c)
    (hT : SlT P t e size bytes z) (hu : ∀ r', Upd (osl e size (.slice (some ⟨g, 0, none⟩) n c0) n xs) r' m (m' r')) (hr : Rd w ao news) (hl : news.length = q * size) (h1 : ∀ u ∈ news, u.oneCell' = true) (hroom : n + q ≤ c0)
    (k : ∀ w', Inv T w0 w' (m' (osl e size (.slice (some ⟨g, 0, none⟩) (n + q) c0) (n + q) (xs ++ news))) → w'.heap.size = H → wpList P ops Q rest (a.put dst (.slice (some ⟨g, 0, none⟩) (n + q) c0)) w') :
    wpList P ops Q (⟨dst, .call { callee := .builtin .append, args := #[s, x], argTypes := #[t, t] }, ty, pos, af, none⟩ :: rest) a w :=
  wpList_plain rfl fun K hK => by
    subst hH
    have hown : w.ownsRow 0 e size (.slice (some ⟨g, 0, none⟩) n c0) n xs := by
      obtain ⟨m1, m2, rfl, _⟩ := (hu (osl e size (.slice (some ⟨g, 0, none⟩) n c0) n xs)).split
      exact hI.sat (osl e size (.slice (some ⟨g, 0, none⟩) n c0) n xs) (by simp)
    obtain ⟨i, hi, hz, rfl, rfl⟩ := hT.info
    have fin : ∀ w', (Builtin.append_ #[t, t] ty #[.slice (some ⟨g, 0, none⟩) n c0, .slice ao q c]).run P w = .ok (.slice (some ⟨g, 0, none⟩) (n + q) c0) w' → w'.ownsRow 0 e i.size (.slice (some ⟨g, 0, none⟩) (n + q) c0) (n + q) (xs ++ news) → Step [g] w w' → w'.heap.size = w.heap.size →
        Oper.wp P ⟨dst, .call { callee := .builtin .append, args := #[s, x], argTypes := #[t, t] }, ty, pos, af, none⟩ a w K Q := by
      intro w' hrun ho hst hsz
      unfold Oper.wp execOp
      simp only [resolve, invoke, builtin, Sem.run_bind, Sem.run_pure, Result.andThen_ok, List.map_toArray, List.map_cons, List.map_nil, hs, hx, hrun]
      refine hK _ _ (k w' (hI.upd (hu _) (hst.mono (by simp [osl, Value.ownBlock])) ho (fun j hj => .inl (by simpa [osl, Value.ownBlock] using hj)) (by simp [osl, Value.ownBlock])) hsz)
    by_cases hq : q = 0
    · subst hq
      have hn : news = [] := List.eq_nil_of_length_eq_zero (by simpa using hl)
      subst hn
      refine fin w ?_ (by simpa using hown) (.refl _ _) rfl
      cases ao with
      | none => exact run_append_nothing w t t ty e i hT.und hi (some ⟨g, 0, none⟩) n c0 hroom _ (Src.ofNil w hT.und c)
      | some ad => exact run_append_nothing w t t ty e i hT.und hi (some ⟨g, 0, none⟩) n c0 hroom _ (Src.ofSlice w hT.und ad 0 c [] (by simp) (fun _ _ h => by simp at h) (fun _ h => by simp at h))
    · obtain ⟨hlen0, ⟨hv, _⟩ | ⟨g', cap, cur, hv, hbg, hg, hnc, hcm, hcs, htake⟩⟩ := hown
      · cases hv
      cases hv
      have hpos := hT.pos
      cases ao with
      | none =>
        have hn : news = [] := by
          cases news with
          | nil => rfl
          | cons u l => obtain ⟨_, _, h, _⟩ := hr 0 u rfl; cases h
        subst hn
        have h0 : q * i.size = 0 := by simpa using hl.symm
        rcases Nat.mul_eq_zero.1 h0 with h | h <;> omega
      | some ad =>
        have hnews : ∀ j u, news[j]? = some u → w.cell? (ad.add j) = some u := by
          intro j u hj
          obtain ⟨b, off, hab, hc⟩ := hr j u hj
          obtain rfl := Option.some.inj hab
          rw [addr_add']; exact hc
        have hfit : n * i.size + news.length ≤ cur.size := by rw [hl, hcs, ← Nat.add_mul]; exact Nat.mul_le_mul_right _ hroom
        have hrr := run_append_room (P := P) w t ty e i hT.und hi g n c0 cur hg ad q c news hl hnews h1 hroom hfit
        have hlen : (xs ++ news).length = (n + q) * i.size := by rw [List.length_append, hlen0, hl, Nat.add_mul]
        refine fin _ hrr ⟨hlen, .inr ⟨g, c0, _, rfl, hbg, setRow_heap w g cur _ e _ hg, hroom, hcm, ?_, ?_⟩⟩ ⟨rfl, rfl, rfl, by simp, fun k _ hk => setRow_other w g k _ (fun e => hk (by simp [e]))⟩ (by simp)
        · simp only [List.size_toArray, List.length_append, List.length_take, List.length_drop, Array.length_toList]
          omega
        · rw [htake, ← hlen]
          exact List.take_left
end
end Go.Proofs.Ytckoiabainpamaa
