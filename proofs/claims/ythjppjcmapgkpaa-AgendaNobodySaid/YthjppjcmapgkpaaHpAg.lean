/- Agenda: a heap of entries, plainly: what up and down make of it. No program in sight. -/
namespace Go.Proofs.Ythjppjcmapgkpaa.QAg
set_option linter.unusedVariables false
/-- An entry: its block, its number, its thing. -/
structure En where
  g : Nat
  id : Int
  key : Int
  mark : Int
def par (i : Nat) : Nat := (i - 1) / 2
def swp (e : Nat → En) (i j : Nat) : Nat → En := fun k => if k = i then e j else if k = j then e i else e k
theorem swp_l (e : Nat → En) (i j : Nat) : swp e i j i = e j := by unfold swp; rw [if_pos rfl]
theorem swp_r (e : Nat → En) (i j : Nat) : swp e i j j = e i := by
  unfold swp
  by_cases h : j = i
  · rw [if_pos h, h]
  · rw [if_neg h, if_pos rfl]
theorem swp_o (e : Nat → En) {i j k : Nat} (h1 : k ≠ i) (h2 : k ≠ j) : swp e i j k = e k := by unfold swp; rw [if_neg h1, if_neg h2]
/-- What up makes of a heap, where less answers as L says it may. -/
inductive UpR (L : En → En → Bool → Prop) : (Nat → En) → Nat → (Nat → En) → Prop
  | top (e : Nat → En) : UpR L e 0 e
  | stop (e : Nat → En) (j : Nat) : 0 < j → L (e j) (e (par j)) false → UpR L e j e
  | go (e e' : Nat → En) (j : Nat) : 0 < j → L (e j) (e (par j)) true → UpR L (swp e (par j) j) (par j) e' → UpR L e j e'
/-- The child that comes first. -/
inductive Kid (L : En → En → Bool → Prop) (n : Nat) (e : Nat → En) (i : Nat) : Nat → Prop
  | one : ¬ 2 * i + 2 < n → Kid L n e i (2 * i + 1)
  | left : 2 * i + 2 < n → L (e (2 * i + 2)) (e (2 * i + 1)) false → Kid L n e i (2 * i + 1)
  | right : 2 * i + 2 < n → L (e (2 * i + 2)) (e (2 * i + 1)) true → Kid L n e i (2 * i + 2)
inductive DownR (L : En → En → Bool → Prop) (n : Nat) : (Nat → En) → Nat → (Nat → En) → Nat → Prop
  | leaf (e : Nat → En) (i : Nat) : n ≤ 2 * i + 1 → DownR L n e i e i
  | stop (e : Nat → En) (i j : Nat) : 2 * i + 1 < n → Kid L n e i j → L (e j) (e i) false → DownR L n e i e i
  | go (e e' : Nat → En) (i j f : Nat) : 2 * i + 1 < n → Kid L n e i j → L (e j) (e i) true → DownR L n (swp e i j) j e' f → DownR L n e i e' f
/-- The same entries, elsewhere. -/
structure Same (n : Nat) (e e' : Nat → En) : Prop where
  fwd : ∀ i, i < n → ∃ j, j < n ∧ e' j = e i
  bwd : ∀ i, i < n → ∃ j, j < n ∧ e j = e' i
  inj : (∀ i j, i < n → j < n → (e i).id = (e j).id → i = j) → ∀ i j, i < n → j < n → (e' i).id = (e' j).id → i = j
theorem Same.refl (n : Nat) (e : Nat → En) : Same n e e := ⟨fun i h => ⟨i, h, rfl⟩, fun i h => ⟨i, h, rfl⟩, fun h => h⟩
theorem Same.trans {n : Nat} {e f g : Nat → En} (h : Same n e f) (k : Same n f g) : Same n e g := by
  refine ⟨fun i hi => ?_, fun i hi => ?_, fun hh => k.inj (h.inj hh)⟩
  · obtain ⟨j, hj, e1⟩ := h.fwd i hi
    obtain ⟨l, hl, e2⟩ := k.fwd j hj
    exact ⟨l, hl, e2.trans e1⟩
  · obtain ⟨j, hj, e1⟩ := k.bwd i hi
    obtain ⟨l, hl, e2⟩ := h.bwd j hj
    exact ⟨l, hl, e2.trans e1⟩
theorem swp_pos {n i j : Nat} (hi : i < n) (hj : j < n) (e : Nat → En) : ∀ k, k < n → ∃ l, l < n ∧ swp e i j k = e l ∧ swp e i j l = e k ∧ (l = if k = i then j else if k = j then i else k) := by
  intro k hk
  by_cases h1 : k = i
  · subst h1; exact ⟨j, hj, swp_l _ _ _, swp_r _ _ _, by rw [if_pos rfl]⟩
  · by_cases h2 : k = j
    · subst h2; exact ⟨i, hi, swp_r _ _ _, swp_l _ _ _, by rw [if_neg h1, if_pos rfl]⟩
    · exact ⟨k, hk, swp_o _ h1 h2, swp_o _ h1 h2, by rw [if_neg h1, if_neg h2]⟩
theorem Same.swp {n i j : Nat} (hi : i < n) (hj : j < n) (e : Nat → En) : Same n e (swp e i j) := by
  refine ⟨fun k hk => ?_, fun k hk => ?_, fun hh a b ha hb hab => ?_⟩
  · obtain ⟨l, hl, _, h2, _⟩ := swp_pos hi hj e k hk
    exact ⟨l, hl, h2⟩
  · obtain ⟨l, hl, h1, _, _⟩ := swp_pos hi hj e k hk
    exact ⟨l, hl, h1.symm⟩
  · obtain ⟨l, hl, h1, _, e1⟩ := swp_pos hi hj e a ha
    obtain ⟨m, hm, h2, _, e2⟩ := swp_pos hi hj e b hb
    rw [h1, h2] at hab
    have := hh l m hl hm hab
    rw [e1, e2] at this
    split at this <;> split at this <;> (try split at this) <;> (try split at this) <;> omega
theorem par_lt {j : Nat} (h : 0 < j) : par j < j := by unfold par; omega
theorem UpR.same {L : En → En → Bool → Prop} {n : Nat} {e e' : Nat → En} {j : Nat} (h : UpR L e j e') (hj : j < n) : Same n e e' := by
  induction h with
  | top e => exact Same.refl _ _
  | stop e j _ _ => exact Same.refl _ _
  | go e e' j h0 _ _ ih =>
    have hp := par_lt h0
    exact (Same.swp (by omega) hj e).trans (ih (by omega))
theorem UpR.above {L : En → En → Bool → Prop} {e e' : Nat → En} {j : Nat} (h : UpR L e j e') : ∀ k, j < k → e' k = e k := by
  induction h with
  | top e => intro k _; rfl
  | stop e j _ _ => intro k _; rfl
  | go e e' j h0 _ _ ih =>
    intro k hk
    have hp := par_lt h0
    rw [ih k (by omega), swp_o _ (by omega) (by omega)]
theorem Kid.lt {L : En → En → Bool → Prop} {n : Nat} {e : Nat → En} {i j : Nat} (h : Kid L n e i j) (hn : 2 * i + 1 < n) : i < j ∧ j < n ∧ par j = i := by
  cases h with
  | one _ => exact ⟨by omega, hn, by unfold par; omega⟩
  | left _ _ => exact ⟨by omega, hn, by unfold par; omega⟩
  | right h2 _ => exact ⟨by omega, h2, by unfold par; omega⟩
theorem DownR.same {L : En → En → Bool → Prop} {n : Nat} {e e' : Nat → En} {i f : Nat} (h : DownR L n e i e' f) (hi : i < n) : Same n e e' := by
  induction h with
  | leaf e i _ => exact Same.refl _ _
  | stop e i j _ _ _ => exact Same.refl _ _
  | go e e' i j f hn hk _ _ ih =>
    have := hk.lt hn
    exact (Same.swp (by omega) (by omega) e).trans (ih (by omega))
theorem DownR.beyond {L : En → En → Bool → Prop} {n : Nat} {e e' : Nat → En} {i f : Nat} (h : DownR L n e i e' f) (hi : i < n) : ∀ k, n ≤ k → e' k = e k := by
  induction h with
  | leaf e i _ => intro k _; rfl
  | stop e i j _ _ _ => intro k _; rfl
  | go e e' i j f hn hk _ _ ih =>
    intro k hk'
    have := hk.lt hn
    rw [ih (by omega) k hk', swp_o _ (by omega) (by omega)]
theorem DownR.le {L : En → En → Bool → Prop} {n : Nat} {e e' : Nat → En} {i f : Nat} (h : DownR L n e i e' f) : i ≤ f ∧ (f = i → e' = e) := by
  induction h with
  | leaf e i _ => exact ⟨Nat.le_refl _, fun _ => rfl⟩
  | stop e i j _ _ _ => exact ⟨Nat.le_refl _, fun _ => rfl⟩
  | go e e' i j f hn hk _ _ ih =>
    have := hk.lt hn
    exact ⟨by omega, fun h => by omega⟩
/-! ### The order -/
def ltE (x y : En) : Bool := decide (x.key < y.key) || (decide (x.key = y.key) && decide (x.id < y.id))
theorem ltE_iff (x y : En) : ltE x y = true ↔ x.key < y.key ∨ (x.key = y.key ∧ x.id < y.id) := by unfold ltE; simp
theorem ltE_not (x y : En) : ltE x y = false ↔ ¬ (x.key < y.key ∨ (x.key = y.key ∧ x.id < y.id)) := by rw [← ltE_iff]; simp
theorem ltE_asym {x y : En} (h : ltE x y = true) : ltE y x = false := by rw [ltE_iff] at h; rw [ltE_not]; omega
theorem ltE_neg {x y z : En} (h : ltE x y = false) (k : ltE y z = false) : ltE x z = false := by rw [ltE_not] at *; omega
abbrev LE (x y : En) (b : Bool) : Prop := b = ltE x y
/-- Each entry but the first comes no earlier than its parent. -/
def HP (n : Nat) (e : Nat → En) : Prop := ∀ k, 0 < k → k < n → ltE (e k) (e (par k)) = false
theorem up_heap {n : Nat} {e e' : Nat → En} {j : Nat} (h : UpR LE e j e') (hj : j < n) (h1 : ∀ k, 0 < k → k < n → k ≠ j → ltE (e k) (e (par k)) = false) (h2 : ∀ k, 0 < k → k < n → par k = j → 0 < j → ltE (e k) (e (par j)) = false) : HP n e' := by
  induction h with
  | top e => exact fun k h0 hk => h1 k h0 hk (by omega)
  | stop e j h0 hb =>
    intro k hk0 hk
    by_cases hkj : k = j
    · subst hkj; exact hb.symm
    · exact h1 k hk0 hk hkj
  | go e e' j h0 hb _ ih =>
    have hp := par_lt h0
    have hb' : ltE (e j) (e (par j)) = true := hb.symm
    refine ih (by omega) (fun k hk0 hk hkp => ?_) (fun k hk0 hk hkp hpj => ?_)
    · by_cases hkj : k = j
      · subst hkj
        rw [swp_r, swp_l]
        exact ltE_asym hb'
      · rw [swp_o _ hkp hkj]
        have hpk := par_lt hk0
        by_cases hq : par k = par j
        · rw [hq, swp_l]
          have := h1 k hk0 hk hkj
          rw [hq] at this
          exact ltE_neg this (ltE_asym hb')
        · by_cases hq2 : par k = j
          · rw [hq2, swp_r]
            exact h2 k hk0 hk hq2 h0
          · rw [swp_o _ hq hq2]
            exact h1 k hk0 hk hkj
    · have hpp := par_lt hpj
      rw [swp_o _ (show par (par j) ≠ par j by omega) (show par (par j) ≠ j by omega)]
      by_cases hkj : k = j
      · subst hkj
        rw [swp_r]
        exact h1 (par k) hpj (by omega) (by omega)
      · rw [swp_o _ (show k ≠ par j by intro hc; rw [hc] at hkp; omega) hkj]
        have e1 := h1 k hk0 hk hkj
        rw [hkp] at e1
        exact ltE_neg e1 (h1 (par j) hpj (by omega) (by omega))
theorem down_heap {n : Nat} {e e' : Nat → En} {i f : Nat} (h : DownR LE n e i e' f) (i0 : Nat) (hge : i0 ≤ i) (hi : i < n) (h1 : ∀ k, 0 < k → k < n → par k ≠ i → (k = i0 → i ≠ i0) → ltE (e k) (e (par k)) = false) (h2 : ∀ k, 0 < k → k < n → par k = i → 0 < i → ltE (e k) (e (par i)) = false) :
    ∀ k, 0 < k → k < n → (k = i0 → f ≠ i0 ∨ i ≠ i0) → ltE (e' k) (e' (par k)) = false := by
  induction h with
  | leaf e i hn =>
    intro k hk0 hk hki
    have hkp : par k ≠ i := by unfold par; omega
    exact h1 k hk0 hk hkp (fun hc => by rcases hki hc with h | h <;> exact h)
  | stop e i j hn hkid hb =>
    intro k hk0 hk hki
    by_cases hkp : par k = i
    · have hb' : ltE (e j) (e i) = false := hb.symm
      have hk2 : k = 2 * i + 1 ∨ k = 2 * i + 2 := by unfold par at hkp; omega
      rw [hkp]
      cases hkid with
      | one h =>
        have : k = 2 * i + 1 := by omega
        subst this; exact hb'
      | left h hl =>
        rcases hk2 with rfl | rfl
        · exact hb'
        · exact ltE_neg hl.symm hb'
      | right h hl =>
        rcases hk2 with rfl | rfl
        · exact ltE_neg (ltE_asym hl.symm) hb'
        · exact hb'
    · exact h1 k hk0 hk hkp (fun hc => by rcases hki hc with h | h <;> exact h)
  | go e e' i j f hn hkid hb hd ih =>
    have hjl := hkid.lt hn
    have hb' : ltE (e j) (e i) = true := hb.symm
    intro k hk0 hk hki
    refine ih (by omega) (by omega) (fun k hk0 hk hkp _ => ?_) (fun k hk0 hk hkp _ => ?_) k hk0 hk (fun hc => ?_)
    · by_cases hkj : k = j
      · subst hkj
        rw [hjl.2.2, swp_r, swp_l]
        exact ltE_asym hb'
      · by_cases hki' : k = i
        · subst hki'
          have hpk := par_lt hk0
          rw [swp_l, swp_o _ (by omega) (by omega)]
          exact h2 j (by omega) hjl.2.1 hjl.2.2 hk0
        · rw [swp_o _ hki' hkj]
          by_cases hq : par k = i
          · rw [hq, swp_l]
            have hk2 : k = 2 * i + 1 ∨ k = 2 * i + 2 := by unfold par at hq; omega
            cases hkid with
            | one h => omega
            | left h hl =>
              have : k = 2 * i + 2 := by omega
              subst this; exact hl.symm
            | right h hl =>
              have : k = 2 * i + 1 := by omega
              subst this; exact ltE_asym hl.symm
          · rw [swp_o _ hq hkp]
            by_cases hk0' : k = i0
            · by_cases hii : i = i0
              · exact absurd (hk0'.trans hii.symm) hki'
              · exact h1 k hk0 hk hq (fun _ => hii)
            · exact h1 k hk0 hk hq (fun hc => absurd hc hk0')
    · rw [hjl.2.2, swp_l]
      have hkj : k ≠ j := by intro hc; subst hc; have := par_lt hk0; omega
      have hki' : k ≠ i := by intro hc; subst hc; have := par_lt hk0; omega
      rw [swp_o _ hki' hkj]
      have hq : par k ≠ i := by omega
      have := h1 k hk0 hk hq (fun hc => by
        intro hii
        subst hc
        have := par_lt hk0
        omega)
      rwa [hkp] at this
    · exact Or.inr (by omega)
/-- Fixing an entry that is another one: down, and where it stood, up. -/
theorem fix_heap {n : Nat} {e e1 e2 : Nat → En} {i f : Nat} (hi : i < n) (h1 : ∀ k, 0 < k → k < n → k ≠ i → par k ≠ i → ltE (e k) (e (par k)) = false) (h2 : ∀ k, 0 < k → k < n → par k = i → 0 < i → ltE (e k) (e (par i)) = false)
    (hd : DownR LE n e i e1 f) (hu : f = i → UpR LE e1 i e2) (hn : f ≠ i → e2 = e1) : HP n e2 := by
  have hk := down_heap hd i (Nat.le_refl _) hi (fun k hk0 hk hkp hki => h1 k hk0 hk (fun hc => hki hc rfl) hkp) h2
  by_cases hf : f = i
  · refine up_heap (hu hf) hi (fun k hk0 hkn hki => hk k hk0 hkn (fun hc => absurd hc hki)) (fun k hk0 hkn hkp hi0 => ?_)
    rw [(hd.le).2 hf]
    exact h2 k hk0 hkn hkp hi0
  · rw [hn hf]
    exact fun k hk0 hkn => hk k hk0 hkn (fun _ => Or.inl hf)
theorem root_least {n : Nat} {e : Nat → En} (h : HP n e) : ∀ k, k < n → ltE (e k) (e 0) = false := by
  intro k
  induction k using Nat.strongRecOn with
  | _ k ih =>
    intro hk
    rcases Nat.eq_zero_or_pos k with rfl | hk0
    · rw [ltE_not]; omega
    · exact ltE_neg (h k hk0 hk) (ih _ (par_lt hk0) (by have := par_lt hk0; omega))
end Go.Proofs.Ythjppjcmapgkpaa.QAg
