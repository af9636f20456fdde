/-
  The plain law of VoteOnce: votes, vows, and takings of one view; no two changes are chosen. No condition.
-/
import Derived.Test.YtaeapoidigglnaaVoteStep
import Derived.Test.YtaeapoidigglnaaFamG
namespace Go.Proofs.Ytaeapoidigglnaa
open Go.RowKit
theorem or_five {V : Int} {k : Nat} (h0 : 0 ≤ V) (h1 : V < 32) (hk : k < 5) : 0 ≤ orV V k ∧ orV V k < 32 ∧ ∀ a, a < 5 → bt (orV V k) a = (bt V a || a == k) := by
  obtain ⟨m, rfl⟩ : ∃ m : Nat, V = m := ⟨V.toNat, by omega⟩
  have e := or_tab ⟨m, by omega⟩ ⟨k, hk⟩
  simp only at e
  unfold orV
  rw [e]
  cases hb : bt (m : Int) k
  · obtain ⟨h2, h3⟩ := add_tab ⟨m, by omega⟩ ⟨k, hk⟩ hb
    simp only at h2 h3
    simp only [Bool.false_eq_true, if_false]
    refine ⟨Int.natCast_nonneg _, by exact_mod_cast h2, fun a ha => ?_⟩
    have := h3 ⟨a, ha⟩
    simp only at this
    rw [this]
    congr 1
    simp [Fin.ext_iff, BEq.beq, decide_eq_decide]
  · simp only [if_true]
    refine ⟨h0, h1, fun a ha => ?_⟩
    by_cases hak : a = k
    · subst hak; rw [hb]; rfl
    · rw [show (a == k) = false by simp [hak], Bool.or_false]
theorem most_meet {a b q : Int} (h1 : mostB a q = true) (h2 : mostB b q = true) : ∃ k, k < 5 ∧ bt a k = true ∧ bt b k = true := by
  have h := halves_law a b q h1 h2
  rw [setTo_count] at h
  by_cases hn : ∃ k, k < 5 ∧ bt (bits BinOp.and IntKind.i64 (bits BinOp.and IntKind.i64 a b) q) k = true
  · obtain ⟨k, hk, hb⟩ := hn
    rw [bt_and _ _ k hk, bt_and _ _ k hk] at hb
    simp only [Bool.and_eq_true] at hb
    exact ⟨k, hk, hb.1.1, hb.1.2⟩
  · exfalso
    have hz : ∀ k, k < 5 → bt (bits BinOp.and IntKind.i64 (bits BinOp.and IntKind.i64 a b) q) k = false := fun k hk => by
      cases hb : bt (bits BinOp.and IntKind.i64 (bits BinOp.and IntKind.i64 a b) q) k
      · rfl
      · exact absurd ⟨k, hk, hb⟩ hn
    rw [hz 0 (by decide), hz 1 (by decide), hz 2 (by decide), hz 3 (by decide), hz 4 (by decide)] at h
    exact h rfl
/-- a vote -/
structure Vt where
  ch : List Int
  b : Nat
  bw : Int
  V : Int
  K : Int
  P : Bool
/-- an acceptor -/
structure Ac where
  r : Nat
  h : Nat
  rw : Int
  hw : Int
  c : List Int
/-- a vow that was told -/
structure Vw where
  h : Nat
  hw : Int
  c : List Int
  t : Bool
structure Once (M : Int) (W : Nat → Int) (n : Nat) (vt : Nat → Vt) (ac : Nat → Ac) (vw : Nat → Vw) (tk : Nat → Bool) (cs : List (List Int)) : Prop where
  vl : ∀ i, i < n → (vt i).ch.length = 3 ∧ (0 ≤ (vt i).V ∧ (vt i).V < 32) ∧ (0 ≤ (vt i).K ∧ (vt i).K < 32)
  al : ∀ a, a < 5 → (ac a).c.length = 3 ∧ (ac a).h ≤ (ac a).r ∧ (ac a).r ≤ n ∧ (0 < (ac a).r → (ac a).rw = W ((ac a).r - 1)) ∧ (0 < (ac a).h → (ac a).hw = W ((ac a).h - 1) ∧ tk (((ac a).h - 1) * 5 + a) = true ∧ (ac a).c = (vt ((ac a).h - 1)).ch)
  tp : ∀ i a, i < n → a < 5 → tk (i * 5 + a) = true → (vt i).P = true ∧ i + 1 ≤ (ac a).h ∧ bt M a = true
  vi : ∀ i a, i < n → a < 5 → (vw (i * 5 + a)).c.length = 3 ∧ ((vw (i * 5 + a)).t = true → i + 1 ≤ (ac a).r ∧ bt M a = true ∧ (vw (i * 5 + a)).h ≤ n ∧
    (0 < (vw (i * 5 + a)).h → (vw (i * 5 + a)).hw = W ((vw (i * 5 + a)).h - 1) ∧ tk (((vw (i * 5 + a)).h - 1) * 5 + a) = true ∧ (vw (i * 5 + a)).c = (vt ((vw (i * 5 + a)).h - 1)).ch) ∧
    (i + 1 ≤ (vw (i * 5 + a)).h → (vt i).P = true) ∧ ∀ j, (vw (i * 5 + a)).h ≤ j → j < i → tk (j * 5 + a) = false)
  bs : ∀ i, i < n → (vt i).b ≤ i ∧ (0 < (vt i).b → (vt i).bw = W ((vt i).b - 1) ∧ (vt ((vt i).b - 1)).P = true ∧ (vt i).ch = (vt ((vt i).b - 1)).ch)
  vb : ∀ i a, i < n → a < 5 → bt (vt i).V a = true → i + 1 ≤ (ac a).r ∧ ∀ j, (vt i).b ≤ j → j < i → tk (j * 5 + a) = false
  pv : ∀ i, i < n → (vt i).P = true → mostB (vt i).V M = true
  kb : ∀ i a, i < n → a < 5 → bt (vt i).K a = true → tk (i * 5 + a) = true
  ce : ∀ c ∈ cs, ∃ i, i < n ∧ c = (vt i).ch ∧ (vt i).P = true ∧ mostB (vt i).K M = true
section
variable {M : Int} {W : Nat → Int} {n : Nat} {vt : Nat → Vt} {ac : Nat → Ac} {vw : Nat → Vw} {tk : Nat → Bool} {cs : List (List Int)}
theorem Once.start (ch : Nat → List Int) (hc : ∀ a, (ch a).length = 3) (vt : Nat → Vt) (vw : Nat → Vw) (tk : Nat → Bool) : Once M W 0 vt (fun a => ⟨0, 0, 0, 0, ch a⟩) vw tk [] where
  vl := fun i h => absurd h (Nat.not_lt_zero _)
  al := fun a _ => ⟨hc a, Nat.le_refl _, Nat.le_refl _, fun h => absurd h (Nat.lt_irrefl _), fun h => absurd h (Nat.lt_irrefl _)⟩
  tp := fun i a h => absurd h (Nat.not_lt_zero _)
  vi := fun i a h => absurd h (Nat.not_lt_zero _)
  bs := fun i h => absurd h (Nat.not_lt_zero _)
  vb := fun i a h => absurd h (Nat.not_lt_zero _)
  pv := fun i h => absurd h (Nat.not_lt_zero _)
  kb := fun i a h => absurd h (Nat.not_lt_zero _)
  ce := fun c h => by simp at h
/-- two votes that both put, one of them chosen -/
theorem Once.one (h : Once M W n vt ac vw tk cs) : ∀ s, s < n → (vt s).P = true → ∀ r, r < s → mostB (vt r).K M = true → (vt s).ch = (vt r).ch := by
  intro s
  induction s using Nat.strongRecOn with
  | _ s ih =>
    intro hs hP r hr hK
    obtain ⟨a, ha, h1, h2⟩ := most_meet (h.pv s hs hP) hK
    have ht := h.kb r a (by omega) ha h2
    have hv := (h.vb s a hs ha h1).2
    obtain ⟨hb1, hb2⟩ := h.bs s hs
    have hb : r < (vt s).b := by
      rcases Nat.lt_or_ge r (vt s).b with h' | h'
      · exact h'
      · rw [hv r h' hr] at ht; cases ht
    obtain ⟨_, hp, hc⟩ := hb2 (by omega)
    rw [hc]
    by_cases he : (vt s).b - 1 = r
    · rw [he]
    · exact ih ((vt s).b - 1) (by omega) (by omega) hp r (by omega) hK
theorem Once.law (h : Once M W n vt ac vw tk cs) : ∀ c ∈ cs, ∀ d ∈ cs, c = d := by
  intro c hc d hd
  obtain ⟨i, hi, rfl, hPi, hKi⟩ := h.ce c hc
  obtain ⟨j, hj, rfl, hPj, hKj⟩ := h.ce d hd
  rcases Nat.lt_trichotomy i j with hij | rfl | hij
  · exact (h.one j hj hPj i hij hKi).symm
  · rfl
  · exact h.one i hi hPi j hij hKj
/-- one more vote -/
theorem Once.vote (h : Once M W n vt ac vw tk cs) (w : Int) {c : List Int} (hc : c.length = 3) {vw' : Nat → Vw} {tk' : Nat → Bool} (hv : ∀ k, k < n * 5 → vw' k = vw k) (hv' : ∀ a, a < 5 → (vw' (n * 5 + a)).t = false ∧ (vw' (n * 5 + a)).c.length = 3)
    (ht : ∀ k, k < n * 5 → tk' k = tk k) (ht' : ∀ a, a < 5 → tk' (n * 5 + a) = false) : Once M (upf W n w) (n + 1) (upf vt n ⟨c, 0, 0, 0, 0, false⟩) ac vw' tk' cs := by
  have eW : ∀ i, i < n → upf W n w i = W i := fun i hi => upf_ne _ _ (by omega)
  have eV : ∀ i, i < n → upf vt n ⟨c, 0, 0, 0, 0, false⟩ i = vt i := fun i hi => upf_ne _ _ (by omega)
  have bz : ∀ a, bt 0 a = false := bt_zero
  have hle : ∀ {i a}, i < n → a < 5 → i * 5 + a < n * 5 := fun {i a} hi ha => by omega
  refine ⟨fun i hi => ?_, fun a ha => ?_, fun i a hi ha ht1 => ?_, fun i a hi ha => ?_, fun i hi => ?_, fun i a hi ha hb => ?_, fun i hi hP => ?_, fun i a hi ha hb => ?_, fun d hd => ?_⟩
  · rcases Nat.lt_or_ge i n with h' | h'
    · rw [eV i h']; exact h.vl i h'
    · obtain rfl : i = n := by omega
      rw [upf_at]; exact ⟨hc, by simp, by simp⟩
  · obtain ⟨h1, h2, h3, h4, h5⟩ := h.al a ha
    refine ⟨h1, h2, by omega, fun h0 => ?_, fun h0 => ?_⟩
    · rw [eW _ (by omega)]; exact h4 h0
    · rw [eW _ (by omega), eV _ (by omega), ht _ (hle (by omega) ha)]; exact h5 h0
  · rcases Nat.lt_or_ge i n with h' | h'
    · rw [eV i h']; exact h.tp i a h' ha (by rw [← ht _ (hle h' ha)]; exact ht1)
    · obtain rfl : i = n := by omega
      rw [ht' a ha] at ht1; cases ht1
  · rcases Nat.lt_or_ge i n with h' | h'
    · rw [hv _ (hle h' ha), eV i h']
      obtain ⟨h1, h2⟩ := h.vi i a h' ha
      refine ⟨h1, fun hh => ?_⟩
      obtain ⟨g1, g2, g3, g4, g5, g6⟩ := h2 hh
      refine ⟨g1, g2, by omega, fun h0 => ?_, g5, fun j hj hji => ?_⟩
      · rw [eW _ (by omega), eV _ (by omega), ht _ (hle (by omega) ha)]; exact g4 h0
      · rw [ht _ (hle (by omega) ha)]; exact g6 j hj hji
    · obtain rfl : i = n := by omega
      obtain ⟨h1, h2⟩ := hv' a ha
      exact ⟨h2, fun hh => by rw [h1] at hh; cases hh⟩
  · rcases Nat.lt_or_ge i n with h' | h'
    · rw [eV i h']
      obtain ⟨h1, h2⟩ := h.bs i h'
      refine ⟨h1, fun h0 => ?_⟩
      rw [eW _ (by omega), eV _ (by omega)]; exact h2 h0
    · obtain rfl : i = n := by omega
      rw [upf_at]; exact ⟨Nat.zero_le _, fun h0 => absurd h0 (Nat.lt_irrefl _)⟩
  · rcases Nat.lt_or_ge i n with h' | h'
    · rw [eV i h'] at hb ⊢
      obtain ⟨h1, h2⟩ := h.vb i a h' ha hb
      exact ⟨h1, fun j hj hji => by rw [ht _ (hle (by omega) ha)]; exact h2 j hj hji⟩
    · obtain rfl : i = n := by omega
      rw [upf_at, bz] at hb; cases hb
  · rcases Nat.lt_or_ge i n with h' | h'
    · rw [eV i h'] at hP ⊢; exact h.pv i h' hP
    · obtain rfl : i = n := by omega
      rw [upf_at] at hP; cases hP
  · rcases Nat.lt_or_ge i n with h' | h'
    · rw [eV i h'] at hb; rw [ht _ (hle h' ha)]; exact h.kb i a h' ha hb
    · obtain rfl : i = n := by omega
      rw [upf_at, bz] at hb; cases hb
  · obtain ⟨i, hi, h1, h2, h3⟩ := h.ce d hd
    exact ⟨i, by omega, by rw [eV i hi]; exact h1, by rw [eV i hi]; exact h2, by rw [eV i hi]; exact h3⟩
/-- a vow -/
theorem Once.ask (h : Once M W n vt ac vw tk cs) {i a : Nat} (hi : i < n) (ha : a < 5) (hr : (ac a).r ≤ i + 1) (hm : bt M a = true) :
    Once M W n vt (upf ac a ⟨i + 1, (ac a).h, W i, (ac a).hw, (ac a).c⟩) (upf vw (i * 5 + a) ⟨(ac a).h, (ac a).hw, (ac a).c, true⟩) tk cs := by
  obtain ⟨a1, a2, a3, a4, a5⟩ := h.al a ha
  have hrr : ∀ b, (ac b).r ≤ (upf ac a ⟨i + 1, (ac a).h, W i, (ac a).hw, (ac a).c⟩ b).r := fun b => by
    by_cases hb : b = a
    · subst hb; rw [upf_at]; exact hr
    · rw [upf_ne _ _ hb]; exact Nat.le_refl _
  have hhh : ∀ b, (upf ac a ⟨i + 1, (ac a).h, W i, (ac a).hw, (ac a).c⟩ b).h = (ac b).h := fun b => by
    by_cases hb : b = a
    · subst hb; rw [upf_at]
    · rw [upf_ne _ _ hb]
  refine ⟨h.vl, fun b hb => ?_, fun j b hj hb ht => ?_, fun j b hj hb => ?_, h.bs, fun j b hj hb hv => ?_, h.pv, h.kb, h.ce⟩
  · by_cases hba : b = a
    · subst hba; rw [upf_at]; exact ⟨a1, by simp only; omega, by simp only; omega, fun _ => by simp, a5⟩
    · rw [upf_ne _ _ hba]; exact h.al b hb
  · obtain ⟨h1, h2, h3⟩ := h.tp j b hj hb ht
    exact ⟨h1, by rw [hhh]; exact h2, h3⟩
  · by_cases hk : j * 5 + b = i * 5 + a
    · obtain rfl : j = i := by omega
      obtain rfl : b = a := by omega
      rw [upf_at, upf_at]
      refine ⟨a1, fun _ => ⟨Nat.le_refl _, hm, by simp only; omega, a5, fun hh => ?_, fun k hk1 hk2 => ?_⟩⟩
      · simp only at hh
        have e : (ac b).h - 1 = j := by omega
        have := (a5 (by omega)).2.1
        rw [e] at this
        exact (h.tp j b hj hb this).1
      · cases ht : tk (k * 5 + b)
        · rfl
        · have := (h.tp k b (by omega) hb ht).2.1
          simp only at hk1; omega
    · rw [upf_ne _ _ hk]
      obtain ⟨h1, h2⟩ := h.vi j b hj hb
      refine ⟨h1, fun hh => ?_⟩
      obtain ⟨g1, g2, g3, g4, g5, g6⟩ := h2 hh
      exact ⟨Nat.le_trans g1 (hrr b), g2, g3, g4, g5, g6⟩
  · obtain ⟨h1, h2⟩ := h.vb j b hj hb hv
    exact ⟨Nat.le_trans h1 (hrr b), h2⟩
/-- one took it -/
theorem Once.put (h : Once M W n vt ac vw tk cs) {i a : Nat} (hi : i < n) (ha : a < 5) (hr : (ac a).r ≤ i + 1) (hm : bt M a = true) (hP : (vt i).P = true) :
    Once M W n vt (upf ac a ⟨i + 1, i + 1, W i, W i, (vt i).ch⟩) vw (upf tk (i * 5 + a) true) cs := by
  obtain ⟨a1, a2, a3, a4, a5⟩ := h.al a ha
  have hrr : ∀ b, (ac b).r ≤ (upf ac a ⟨i + 1, i + 1, W i, W i, (vt i).ch⟩ b).r := fun b => by
    by_cases hb : b = a
    · subst hb; rw [upf_at]; exact hr
    · rw [upf_ne _ _ hb]; exact Nat.le_refl _
  have hhh : ∀ b, (ac b).h ≤ (upf ac a ⟨i + 1, i + 1, W i, W i, (vt i).ch⟩ b).h := fun b => by
    by_cases hb : b = a
    · subst hb; rw [upf_at]; simp only; omega
    · rw [upf_ne _ _ hb]; exact Nat.le_refl _
  have tkm : ∀ k, tk k = true → upf tk (i * 5 + a) true k = true := fun k hk => by
    by_cases hb : k = i * 5 + a
    · subst hb; rw [upf_at]
    · rw [upf_ne _ _ hb]; exact hk
  have tkn : ∀ j b, b < 5 → ¬ (j = i ∧ b = a) → tk (j * 5 + b) = false → upf tk (i * 5 + a) true (j * 5 + b) = false := fun j b hb hn hk => by
    rw [upf_ne _ _ (fun e => hn (by omega))]; exact hk
  refine ⟨h.vl, fun b hb => ?_, fun j b hj hb ht => ?_, fun j b hj hb => ?_, h.bs, fun j b hj hb hv => ?_, h.pv, fun j b hj hb hk => tkm _ (h.kb j b hj hb hk), h.ce⟩
  · by_cases hba : b = a
    · subst hba; rw [upf_at]
      exact ⟨(h.vl i hi).1, Nat.le_refl _, by simp only; omega, fun _ => by simp, fun _ => ⟨by simp, by simp only [Nat.add_sub_cancel]; rw [upf_at], by simp⟩⟩
    · rw [upf_ne _ _ hba]
      obtain ⟨b1, b2, b3, b4, b5⟩ := h.al b hb
      exact ⟨b1, b2, b3, b4, fun h0 => ⟨(b5 h0).1, tkm _ (b5 h0).2.1, (b5 h0).2.2⟩⟩
  · by_cases hk : j * 5 + b = i * 5 + a
    · obtain rfl : j = i := by omega
      obtain rfl : b = a := by omega
      rw [upf_at]
      exact ⟨hP, Nat.le_refl _, hm⟩
    · rw [upf_ne _ _ hk] at ht
      obtain ⟨h1, h2, h3⟩ := h.tp j b hj hb ht
      exact ⟨h1, Nat.le_trans h2 (hhh b), h3⟩
  · obtain ⟨h1, h2⟩ := h.vi j b hj hb
    refine ⟨h1, fun hh => ?_⟩
    obtain ⟨g1, g2, g3, g4, g5, g6⟩ := h2 hh
    refine ⟨Nat.le_trans g1 (hrr b), g2, g3, fun h0 => ⟨(g4 h0).1, tkm _ (g4 h0).2.1, (g4 h0).2.2⟩, g5, fun k hk1 hk2 => tkn k b hb (fun he => ?_) (g6 k hk1 hk2)⟩
    obtain ⟨rfl, rfl⟩ := he
    omega
  · obtain ⟨h1, h2⟩ := h.vb j b hj hb hv
    refine ⟨Nat.le_trans h1 (hrr b), fun k hk1 hk2 => tkn k b hb (fun he => ?_) (h2 k hk1 hk2)⟩
    obtain ⟨rfl, rfl⟩ := he
    omega
/-- its vow comes back to a vote that doesn't put yet -/
theorem Once.vow (h : Once M W n vt ac vw tk cs) {i a : Nat} (hi : i < n) (ha : a < 5) (ht : (vw (i * 5 + a)).t = true) (hP : (vt i).P = false) {x : Vt} (hV : x.V = orV (vt i).V a) (hK : x.K = (vt i).K) (hxP : x.P = mostB x.V M)
    (hx : (0 < (vw (i * 5 + a)).h ∧ (vt i).b < (vw (i * 5 + a)).h ∧ x.b = (vw (i * 5 + a)).h ∧ x.bw = (vw (i * 5 + a)).hw ∧ x.ch = (vw (i * 5 + a)).c) ∨ (((vw (i * 5 + a)).h = 0 ∨ (vw (i * 5 + a)).h ≤ (vt i).b) ∧ x.b = (vt i).b ∧ x.bw = (vt i).bw ∧ x.ch = (vt i).ch)) :
    Once M W n (upf vt i x) ac vw tk cs := by
  obtain ⟨v1, v2⟩ := h.vi i a hi ha
  obtain ⟨g1, g2, g3, g4, g5, g6⟩ := v2 ht
  obtain ⟨l1, l2, l3⟩ := h.vl i hi
  obtain ⟨b1, b2⟩ := h.bs i hi
  obtain ⟨o1, o2, o3⟩ := or_five l2.1 l2.2 ha
  have ne : ∀ {j}, (vt j).P = true → j ≠ i := fun {j} hj e => by subst e; rw [hP] at hj; cases hj
  have hhi : (vw (i * 5 + a)).h ≤ i := by
    rcases Nat.lt_or_ge i (vw (i * 5 + a)).h with h' | h'
    · rw [g5 h'] at hP; cases hP
    · exact h'
  have keep : ∀ j, (vt j).P = true → upf vt i x j = vt j := fun j hj => upf_ne _ _ (ne hj)
  have hxb : (vt i).b ≤ x.b ∧ (vw (i * 5 + a)).h ≤ x.b ∧ x.b ≤ i ∧ x.ch.length = 3 ∧ (0 < x.b → x.bw = W (x.b - 1) ∧ (vt (x.b - 1)).P = true ∧ x.ch = (vt (x.b - 1)).ch) := by
    rcases hx with ⟨x1, x2, x3, x4, x5⟩ | ⟨x1, x3, x4, x5⟩
    · rw [x3, x4, x5]
      refine ⟨by omega, Nat.le_refl _, hhi, v1, fun h0 => ?_⟩
      obtain ⟨y1, y2, y3⟩ := g4 h0
      exact ⟨y1, (h.tp _ a (by omega) ha y2).1, y3⟩
    · rw [x3, x4, x5]
      exact ⟨Nat.le_refl _, by omega, b1, l1, b2⟩
  obtain ⟨y1, y2, y3, y4, y5⟩ := hxb
  refine ⟨fun j hj => ?_, fun b hb => ?_, fun j b hj hb htk => ?_, fun j b hj hb => ?_, fun j hj => ?_, fun j b hj hb hv => ?_, fun j hj hPj => ?_, fun j b hj hb hk => ?_, fun c hc => ?_⟩
  · by_cases hji : j = i
    · subst hji; rw [upf_at, hV, hK]; exact ⟨y4, ⟨o1, o2⟩, l3⟩
    · rw [upf_ne _ _ hji]; exact h.vl j hj
  · obtain ⟨c1, c2, c3, c4, c5⟩ := h.al b hb
    refine ⟨c1, c2, c3, c4, fun h0 => ?_⟩
    obtain ⟨d1, d2, d3⟩ := c5 h0
    exact ⟨d1, d2, by rw [keep _ (h.tp _ b (by omega) hb d2).1]; exact d3⟩
  · obtain ⟨h1, h2, h3⟩ := h.tp j b hj hb htk
    exact ⟨by rw [keep j h1]; exact h1, h2, h3⟩
  · obtain ⟨h1, h2⟩ := h.vi j b hj hb
    refine ⟨h1, fun hh => ?_⟩
    obtain ⟨f1, f2, f3, f4, f5, f6⟩ := h2 hh
    refine ⟨f1, f2, f3, fun h0 => ?_, fun hjh => ?_, f6⟩
    · obtain ⟨d1, d2, d3⟩ := f4 h0
      exact ⟨d1, d2, by rw [keep _ (h.tp _ b (by omega) hb d2).1]; exact d3⟩
    · have := f5 hjh; rw [keep j this]; exact this
  · by_cases hji : j = i
    · subst hji; rw [upf_at]
      refine ⟨y3, fun h0 => ?_⟩
      obtain ⟨d1, d2, d3⟩ := y5 h0
      rw [keep _ d2]; exact ⟨d1, d2, d3⟩
    · rw [upf_ne _ _ hji]
      obtain ⟨c1, c2⟩ := h.bs j hj
      refine ⟨c1, fun h0 => ?_⟩
      obtain ⟨d1, d2, d3⟩ := c2 h0
      rw [keep _ d2]; exact ⟨d1, d2, d3⟩
  · by_cases hji : j = i
    · subst hji; rw [upf_at] at hv ⊢
      rw [hV, o3 b hb] at hv
      by_cases hba : b = a
      · subst hba
        exact ⟨g1, fun k hk1 hk2 => g6 k (by omega) hk2⟩
      · rw [show (b == a) = false by simp [hba], Bool.or_false] at hv
        obtain ⟨h1, h2⟩ := h.vb j b hj hb hv
        exact ⟨h1, fun k hk1 hk2 => h2 k (by omega) hk2⟩
    · rw [upf_ne _ _ hji] at hv ⊢
      exact h.vb j b hj hb hv
  · by_cases hji : j = i
    · subst hji; rw [upf_at] at hPj ⊢; rw [← hxP]; exact hPj
    · rw [upf_ne _ _ hji] at hPj ⊢; exact h.pv j hj hPj
  · by_cases hji : j = i
    · subst hji; rw [upf_at, hK] at hk; exact h.kb j b hj hb hk
    · rw [upf_ne _ _ hji] at hk; exact h.kb j b hj hb hk
  · obtain ⟨j, h1, h2, h3, h4⟩ := h.ce c hc
    exact ⟨j, h1, by rw [keep j h3]; exact h2, by rw [keep j h3]; exact h3, by rw [keep j h3]; exact h4⟩
/-- that it was taken comes back -/
theorem Once.took (h : Once M W n vt ac vw tk cs) {i a : Nat} (hi : i < n) (ha : a < 5) (ht : tk (i * 5 + a) = true) {x : Vt} (hx : x = { vt i with K := orV (vt i).K a }) :
    Once M W n (upf vt i x) ac vw tk cs ∧ (mostB x.K M = true → Once M W n (upf vt i x) ac vw tk (cs ++ [(vt i).ch])) := by
  subst hx
  obtain ⟨hP, _, _⟩ := h.tp i a hi ha ht
  obtain ⟨l1, l2, l3⟩ := h.vl i hi
  obtain ⟨o1, o2, o3⟩ := or_five l3.1 l3.2 ha
  have e : ∀ j, (upf vt i { vt i with K := orV (vt i).K a } j).ch = (vt j).ch ∧ (upf vt i { vt i with K := orV (vt i).K a } j).b = (vt j).b ∧ (upf vt i { vt i with K := orV (vt i).K a } j).bw = (vt j).bw ∧ (upf vt i { vt i with K := orV (vt i).K a } j).V = (vt j).V ∧ (upf vt i { vt i with K := orV (vt i).K a } j).P = (vt j).P := fun j => by
    by_cases hji : j = i
    · subst hji; rw [upf_at]; exact ⟨rfl, rfl, rfl, rfl, rfl⟩
    · rw [upf_ne _ _ hji]; exact ⟨rfl, rfl, rfl, rfl, rfl⟩
  have eK : ∀ j, (upf vt i { vt i with K := orV (vt i).K a } j).K = if j = i then orV (vt i).K a else (vt j).K := fun j => by
    by_cases hji : j = i
    · subst hji; rw [upf_at, if_pos rfl]
    · rw [upf_ne _ _ hji, if_neg hji]
  have mono : mostB (vt i).K M = true → mostB (orV (vt i).K a) M = true := fun hm => by
    simp only [mostB, decide_eq_true_eq, setTo_count, bt_and _ _ 0 (by decide), bt_and _ _ 1 (by decide), bt_and _ _ 2 (by decide), bt_and _ _ 3 (by decide), bt_and _ _ 4 (by decide), o3 0 (by decide), o3 1 (by decide), o3 2 (by decide), o3 3 (by decide), o3 4 (by decide)] at hm ⊢
    have hor : ∀ p q r : Bool, (p && r).toNat ≤ ((p || q) && r).toNat := by decide
    have e0 := hor (bt (vt i).K 0) (0 == a) (bt M 0)
    have e1 := hor (bt (vt i).K 1) (1 == a) (bt M 1)
    have e2 := hor (bt (vt i).K 2) (2 == a) (bt M 2)
    have e3 := hor (bt (vt i).K 3) (3 == a) (bt M 3)
    have e4 := hor (bt (vt i).K 4) (4 == a) (bt M 4)
    omega
  have main : Once M W n (upf vt i { vt i with K := orV (vt i).K a }) ac vw tk cs := by
    refine ⟨fun j hj => ?_, fun b hb => ?_, fun j b hj hb htk => ?_, fun j b hj hb => ?_, fun j hj => ?_, fun j b hj hb hv => ?_, fun j hj hPj => ?_, fun j b hj hb hk => ?_, fun c hc => ?_⟩
    · rw [(e j).1, (e j).2.2.2.1, eK]
      by_cases hji : j = i
      · subst hji; rw [if_pos rfl]; exact ⟨l1, l2, o1, o2⟩
      · rw [if_neg hji]; exact h.vl j hj
    · obtain ⟨c1, c2, c3, c4, c5⟩ := h.al b hb
      exact ⟨c1, c2, c3, c4, fun h0 => by rw [(e _).1]; exact c5 h0⟩
    · rw [(e j).2.2.2.2]; exact h.tp j b hj hb htk
    · obtain ⟨h1, h2⟩ := h.vi j b hj hb
      refine ⟨h1, fun hh => ?_⟩
      obtain ⟨f1, f2, f3, f4, f5, f6⟩ := h2 hh
      exact ⟨f1, f2, f3, fun h0 => by rw [(e _).1]; exact f4 h0, fun hjh => by rw [(e j).2.2.2.2]; exact f5 hjh, f6⟩
    · rw [(e j).1, (e j).2.1, (e j).2.2.1]
      obtain ⟨c1, c2⟩ := h.bs j hj
      exact ⟨c1, fun h0 => by rw [(e _).1, (e _).2.2.2.2]; exact c2 h0⟩
    · rw [(e j).2.2.2.1] at hv
      rw [(e j).2.1]
      exact h.vb j b hj hb hv
    · rw [(e j).2.2.2.2] at hPj; rw [(e j).2.2.2.1]; exact h.pv j hj hPj
    · rw [eK] at hk
      by_cases hji : j = i
      · subst hji
        rw [if_pos rfl, o3 b hb] at hk
        by_cases hba : b = a
        · subst hba; exact ht
        · rw [show (b == a) = false by simp [hba], Bool.or_false] at hk
          exact h.kb j b hj hb hk
      · rw [if_neg hji] at hk; exact h.kb j b hj hb hk
    · obtain ⟨j, h1, h2, h3, h4⟩ := h.ce c hc
      refine ⟨j, h1, by rw [(e j).1]; exact h2, by rw [(e j).2.2.2.2]; exact h3, ?_⟩
      rw [eK]
      by_cases hji : j = i
      · subst hji; rw [if_pos rfl]; exact mono h4
      · rw [if_neg hji]; exact h4
  refine ⟨main, fun hm => ⟨main.vl, main.al, main.tp, main.vi, main.bs, main.vb, main.pv, main.kb, fun c hc => ?_⟩⟩
  rcases List.mem_append.1 hc with hc | hc
  · exact main.ce c hc
  · obtain rfl := List.mem_singleton.1 hc
    exact ⟨i, hi, (e i).1.symm, by rw [(e i).2.2.2.2]; exact hP, by rw [upf_at]; exact hm⟩
end
end Go.Proofs.Ytaeapoidigglnaa
