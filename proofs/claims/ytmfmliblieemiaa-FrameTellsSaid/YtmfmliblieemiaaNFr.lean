/- Frames as numbers, second part: checks, rounds, parts, gaps. No Go, no memory: the printed functions alone. -/
import Derived.Test.YtmfmliblieemiaaHFr
namespace Go.Proofs.Ytmfmliblieemiaa.QFr
open Go.RowKit Go.Proofs.YtmfmliblieemiaaW.PrintWords Go.Proofs.YtmfmliblieemiaaW.PrintLast Go.Proofs.YtmfmliblieemiaaW.PrintMore
set_option linter.unusedVariables false

theorem wf64 {n : Int} (h : (Lit.int .i64 n).wf = true) : -9223372036854775808 ≤ n ∧ n ≤ 9223372036854775807 := by
  have hmin : IntKind.i64.min = -9223372036854775808 := rfl
  have hmax : IntKind.i64.max = 9223372036854775807 := rfl
  simp only [Lit.wf, Bool.and_eq_true, decide_eq_true_eq] at h
  omega

/-! ### The reference's check -/
theorem rchk_l1 (l : List Int) (n : Nat) (hl : l.length ≤ 64) (hn : n ≤ 16) (d : Nat) : ∀ (k i : Nat), n - i = d → i ≤ n → d + 70 ≤ k → (∀ j : Nat, j < i → (j : Int) ∈ l) →
    rampartref19_Check.l1 k l n i = some (chkR l n) := by
  induction d with
  | zero =>
    intro k i hd hi hk hm
    obtain ⟨k, rfl⟩ : ∃ m, k = m + 1 := ⟨k - 1, by omega⟩
    simp only [rampartref19_Check.l1]
    have ht : chkAll l n = true := by
      unfold chkAll
      rw [List.all_eq_true]
      intro x hx
      have := List.mem_range.1 hx
      simpa using hm x (by omega)
    rw [if_neg (by omega), chkR, ht]
    rfl
  | succ d ih =>
    intro k i hd hi hk hm
    obtain ⟨k, rfl⟩ : ∃ m, k = m + 1 := ⟨k - 1, by omega⟩
    simp only [rampartref19_Check.l1]
    rw [if_pos (by omega), rshare_ok l i (by omega) k (by omega)]
    simp only [Option.bind_some]
    have e : wrap64 ((i : Int) + 1) = ((i + 1 : Nat) : Int) := by unfold wrap64; omega
    by_cases c : (i : Int) ∈ l
    · have hc : 0 < l.count (i : Int) := List.count_pos_iff.2 c
      rw [if_neg (by omega), e]
      refine ih k (i + 1) (by omega) (by omega) (by omega) fun j hj => ?_
      by_cases e' : j = i
      · rw [e']; exact c
      · exact hm j (by omega)
    · have hc : l.count (i : Int) = 0 := List.count_eq_zero.2 c
      rw [if_pos (by omega)]
      have hf : chkAll l n = false := by
        unfold chkAll
        rw [List.all_eq_false]
        exact ⟨i, List.mem_range.2 (by omega), by simpa using c⟩
      rw [chkR, hf]
      rfl
theorem rchk_l0 (l : List Int) (n : Nat) (hl : l.length ≤ 64) (hn : n ≤ 16) (d : Nat) : ∀ (k i : Nat), l.length - i = d → i ≤ l.length → d + 100 ≤ k → 
    rampartref19_Check.l0 k l n i = some (if (l.drop i).any (chkB n) then 190 else chkR l n) := by
  induction d with
  | zero =>
    intro k i hd hi hk
    obtain ⟨k, rfl⟩ : ∃ m, k = m + 1 := ⟨k - 1, by omega⟩
    simp only [rampartref19_Check.l0]
    rw [if_neg (by omega), show i = l.length by omega, List.drop_length, List.any_nil]
    have := rchk_l1 l n hl hn n k 0 (by omega) (by omega) (by omega) (fun j hj => by omega)
    simpa using this
  | succ d ih =>
    intro k i hd hi hk
    obtain ⟨k, rfl⟩ : ∃ m, k = m + 1 := ⟨k - 1, by omega⟩
    have hlt : i < l.length := by omega
    simp only [rampartref19_Check.l0]
    have e : wrap64 ((i : Int) + 1) = ((i + 1 : Nat) : Int) := by unfold wrap64; omega
    rw [if_pos (by omega), if_pos (by omega), rd_at l i hlt, List.drop_eq_getElem_cons hlt, List.any_cons, e]
    by_cases c1 : l[i] < 0
    · have : chkB n l[i] = true := by unfold chkB; simp [c1]
      rw [if_pos c1, this]; simp
    · by_cases c2 : l[i] ≥ (n : Int)
      · have : chkB n l[i] = true := by unfold chkB; simp [c2]
        rw [if_neg c1, if_pos c2, this]; simp
      · have : chkB n l[i] = false := by unfold chkB; simp [c1, c2]
        rw [if_neg c1, if_neg c2, this, Bool.false_or]
        exact ih k (i + 1) (by omega) (by omega) (by omega)
theorem rCheck_ok (l : List Int) (n : Int) (k : Nat) (hk : 300 ≤ k) : rampartref19_Check.f k l n = some (chkTell l n) := by
  unfold rampartref19_Check.f chkTell
  rw [row_is]
  simp only [Option.bind_some]
  have bad : rampartref19_Check.j0 k l n true = some 190 := by
    obtain ⟨k, rfl⟩ : ∃ m, k = m + 1 := ⟨k - 1, by omega⟩
    simp only [rampartref19_Check.j0, if_true]
  cases hr : okRow l with
  | false =>
    have hr' : ¬ (1 ≤ l.length ∧ l.length ≤ 64) := of_decide_eq_false hr
    simp only [Bool.false_eq_true, if_false]
    rw [if_pos (by omega)]
    exact bad
  | true =>
    have r := okRow_iff hr
    simp only [if_true]
    by_cases c1 : n < 1
    · rw [if_pos c1, if_pos (by omega)]; exact bad
    · rw [if_neg c1]
      by_cases c2 : n > 16
      · rw [decide_eq_true c2, if_pos (by omega)]; exact bad
      · rw [decide_eq_false c2, if_neg (by omega)]
        obtain ⟨m, rfl⟩ := Int.eq_ofNat_of_zero_le (show 0 ≤ n by omega)
        obtain ⟨k, rfl⟩ : ∃ m, k = m + 1 := ⟨k - 1, by omega⟩
        simp only [rampartref19_Check.j0, Bool.false_eq_true, if_false, Int.toNat_natCast]
        have := rchk_l0 l m (by omega) (by omega) l.length k 0 (by omega) (by omega) (by omega)
        rw [List.drop_zero] at this
        exact this
theorem chk_zero {l : List Int} {n : Int} (h : chkTell l n = 0) : 1 ≤ n ∧ n ≤ 16 ∧ 1 ≤ l.length ∧ l.length ≤ 64 ∧ (∀ x ∈ l, 0 ≤ x ∧ x < n) := by
  unfold chkTell at h
  by_cases c : n < 1 ∨ 16 < n ∨ (l.length : Int) < 1 ∨ 64 < (l.length : Int)
  · rw [if_pos c] at h; omega
  · rw [if_neg c] at h
    cases ha : l.any (chkB n) with
    | true => rw [ha, if_pos rfl] at h; omega
    | false =>
      refine ⟨by omega, by omega, by omega, by omega, fun x hx => ?_⟩
      have := List.any_eq_false.1 ha x hx
      unfold chkB at this
      simp at this
      omega

/-! ### Owner -/
def ownRes (l : List Int) (n : Int) : Int × Int := if okRow l && okTick n then (rd l ((n.toNat % l.length : Nat) : Int), 0) else (0, 190)
theorem Owner_ok (l : List Int) (n : Int) : frame_Owner.f l n = some (ownRes l n) := by
  unfold frame_Owner.f frame_row_owner.f ownRes
  rw [may_is, tick_is]
  simp only [Option.bind_some]
  cases hr : okRow l with
  | false => simp
  | true =>
    cases ha : okTick n with
    | false => simp
    | true =>
      have r := okRow_iff hr
      obtain ⟨x, rfl⟩ := Int.eq_ofNat_of_zero_le (okTick_iff ha).1
      have hm := Nat.mod_lt x (show 0 < l.length by omega)
      have e1 : Int.tmod (x : Int) (l.length : Int) = ((x % l.length : Nat) : Int) := by rw [Int.tmod_eq_emod_of_nonneg (by omega)]; rfl
      simp only [if_true, Bool.and_self, Int.toNat_natCast]
      rw [e1, if_neg (by omega), if_pos (by omega), if_pos (by omega)]
      rfl
theorem rOwner_ok (l : List Int) (n : Int) : rampartref19_Owner.f l n = some (ownRes l n) := by
  unfold rampartref19_Owner.f ownRes
  rw [row_is, rtick_is]
  simp only [Option.bind_some]
  cases hr : okRow l with
  | false => simp
  | true =>
    cases ha : okTick n with
    | false => simp
    | true =>
      have r := okRow_iff hr
      obtain ⟨x, rfl⟩ := Int.eq_ofNat_of_zero_le (okTick_iff ha).1
      have hm := Nat.mod_lt x (show 0 < l.length by omega)
      have e1 : Int.tmod (x : Int) (l.length : Int) = ((x % l.length : Nat) : Int) := by rw [Int.tmod_eq_emod_of_nonneg (by omega)]; rfl
      simp only [if_true, Bool.and_self, Int.toNat_natCast]
      rw [e1, if_neg (by omega), if_pos (by omega), if_pos (by omega)]
theorem Share_ok (l : List Int) (t : Int) (hl : l.length ≤ 4611686018427387904) (k : Nat) (hk : l.length < k) : frame_Share.f k l t = some ((l.count t : Nat) : Int) := by
  unfold frame_Share.f
  rw [share_ok l t hl k hk]
  rfl

/-! ### A round -/
theorem win_round (l : List Int) (t a : Int) (hr : okRow l = true) (ha : okTick a = true) (hb : okTick (a + l.length) = true) : winRes l t a (a + l.length) = (((l.count t : Nat) : Int), 0) := by
  have r := okRow_iff hr
  obtain ⟨x, rfl⟩ := Int.eq_ofNat_of_zero_le (okTick_iff ha).1
  unfold winRes
  rw [hr, ha, hb]
  simp only [Bool.and_self, if_true]
  rw [← Int.natCast_add, Int.toNat_natCast, Int.toNat_natCast]
  have := cn_round l t (by omega) x 1
  rw [Nat.one_mul, Nat.one_mul] at this
  rw [this]
  congr 2; omega

/-! ### All tenants together -/
def psum (f : Nat → Nat) : Nat → Nat
  | 0 => 0
  | n + 1 => psum f n + f n
theorem psum_add (f g : Nat → Nat) (n : Nat) : psum (fun j => f j + g j) n = psum f n + psum g n := by
  induction n with
  | zero => rfl
  | succ n ih => rw [psum, psum, psum, ih]; omega
theorem psum_congr (f g : Nat → Nat) (n : Nat) (h : ∀ j, j < n → f j = g j) : psum f n = psum g n := by
  induction n with
  | zero => rfl
  | succ n ih => rw [psum, psum, ih (fun j hj => h j (by omega)), h n (by omega)]
theorem psum_zero (n : Nat) : psum (fun _ => 0) n = 0 := by
  induction n with
  | zero => rfl
  | succ n ih => rw [psum, ih]
theorem psum_one (c : Int) (n : Nat) : psum (fun j => if c = (j : Int) then 1 else 0) n = if 0 ≤ c ∧ c < n then 1 else 0 := by
  induction n with
  | zero => rw [if_neg (by omega)]; rfl
  | succ n ih =>
    rw [psum, ih]
    by_cases h : c = (n : Int)
    · rw [if_pos h, if_neg (by omega), if_pos (by omega)]
    · rw [if_neg h]
      by_cases h' : 0 ≤ c ∧ c < n
      · rw [if_pos h', if_pos (by omega)]
      · rw [if_neg h', if_neg (by omega)]
theorem psum_le (f g : Nat → Nat) (n : Nat) (h : ∀ j, f j ≤ g j) : psum f n ≤ psum g n := by
  induction n with
  | zero => exact Nat.le_refl _
  | succ n ih => rw [psum, psum]; have := h n; omega
theorem all_ticks (l : List Int) (n a : Nat) (hl : 0 < l.length) (hx : ∀ x ∈ l, 0 ≤ x ∧ x < (n : Int)) (d : Nat) : psum (fun j => cn l j (a + d) - cn l j a) n = d := by
  induction d with
  | zero =>
    rw [psum_congr _ (fun _ => 0) n (fun j _ => by simp)]
    exact psum_zero n
  | succ d ih =>
    have hm := Nat.mod_lt (a + d) hl
    have e : psum (fun j => cn l j (a + (d + 1)) - cn l j a) n = psum (fun j => (cn l j (a + d) - cn l j a) + (if rd l (((a + d) % l.length : Nat) : Int) = (j : Int) then 1 else 0)) n := by
      refine psum_congr _ _ n fun j _ => ?_
      have c1 := cn_succ l j (a + d) hl
      have c2 := cn_le l j hl (show a ≤ a + d by omega)
      rw [show a + (d + 1) = a + d + 1 by omega, c1]
      omega
    rw [e, psum_add, ih, psum_one]
    have hc := hx _ (List.getElem_mem hm)
    rw [← rd_at l _ hm] at hc
    rw [if_pos hc]

/-! ### Gaps -/
/-- What Gap's loop tells: at least what it began with, and each distance that it saw. -/
theorem gap_loop (p : List Int) (hp : ∀ j : Nat, j < p.length → 0 ≤ rd p j ∧ rd p j ≤ 64) (hl : p.length ≤ 64) (d : Nat) : ∀ (k j : Nat) (m : Int), p.length - 1 - j = d → j + 1 ≤ p.length → d < k → 0 ≤ m → m ≤ 256 →
    ∃ r, frame_Gap.l0 k p m ((p.length : Int) - 1) j = some (r, 0) ∧ m ≤ r ∧ r ≤ 256 ∧ ∀ i : Nat, j ≤ i → i + 1 < p.length → rd p ((i + 1 : Nat) : Int) - rd p i ≤ r := by
  induction d with
  | zero =>
    intro k j m hd hj hk h0 h1
    obtain ⟨k, rfl⟩ : ∃ m, k = m + 1 := ⟨k - 1, by omega⟩
    simp only [frame_Gap.l0]
    rw [if_neg (by omega)]
    exact ⟨m, rfl, Int.le_refl _, h1, fun i h h' => by omega⟩
  | succ d ih =>
    intro k j m hd hj hk h0 h1
    obtain ⟨k, rfl⟩ : ∃ m, k = m + 1 := ⟨k - 1, by omega⟩
    simp only [frame_Gap.l0]
    have e : wrap64 ((j : Int) + 1) = ((j + 1 : Nat) : Int) := by unfold wrap64; omega
    have q1 := hp j (by omega)
    have q2 := hp (j + 1) (by omega)
    rw [e, if_pos (by omega), if_pos (by omega), if_pos (by omega), if_pos (by omega), if_pos (by omega), w64 _ (by omega) (by omega)]
    have hmx : m ≤ mx m (rd p ((j + 1 : Nat) : Int) - rd p j) ∧ rd p ((j + 1 : Nat) : Int) - rd p j ≤ mx m (rd p ((j + 1 : Nat) : Int) - rd p j) ∧ mx m (rd p ((j + 1 : Nat) : Int) - rd p j) ≤ 256 := by
      unfold mx; split <;> omega
    obtain ⟨r, hr, r1, r2, r3⟩ := ih k (j + 1) _ (by omega) (by omega) (by omega) (by omega) hmx.2.2
    refine ⟨r, hr, by omega, r2, fun i hi hi' => ?_⟩
    by_cases c : i = j
    · subst c; omega
    · exact r3 i (by omega) hi'
/-- A frame's gap of a tenant that has ticks: each stretch as long has one of them. -/
theorem Gap_ok (l : List Int) (t : Int) (hr : okRow l = true) (hs : 0 < l.count t) : ∃ g : Int, frame_Gap.f 200 l t = some (g, 0) ∧ 0 ≤ g ∧ g ≤ 256 ∧ ∀ s : Nat, cn l t s + 1 ≤ cn l t (s + g.toNat) := by
  have r := okRow_iff hr
  have hlen := plF_length t l 0
  have hcl := count_le l t
  have get : ∀ j : Nat, j < l.count t → ∃ p : Nat, rd (plF t l 0) j = (p : Int) ∧ p < l.length ∧ rd l p = t ∧ (l.take p).count t = j := by
    intro j hj
    obtain ⟨p, h1, h2, h3, h4⟩ := plF_get t l 0 j hj
    exact ⟨p, by rw [h1]; congr 1; omega, h2, h3, h4⟩
  unfold frame_Gap.f
  rw [may_is, hr, places_ok l t (by omega) 200 (by omega)]
  simp only [Option.bind_some, if_true, hlen]
  obtain ⟨p0, a1, a2, a3, a4⟩ := get 0 hs
  obtain ⟨pl, b1, b2, b3, b4⟩ := get (l.count t - 1) (by omega)
  have e1 : wrap64 (((l.count t : Nat) : Int) - 1) = ((l.count t - 1 : Nat) : Int) := by unfold wrap64; omega
  have a1' : rd (plF t l 0) 0 = (p0 : Int) := a1
  rw [if_neg (by omega), if_pos (by omega), e1, if_pos (by omega), if_pos (by omega), a1', b1, w64 ((p0 : Int) + (l.length : Int)) (by omega) (by omega), w64 _ (by omega) (by omega)]
  have hpl : p0 ≤ pl := by
    rcases Nat.lt_or_ge pl p0 with h | h
    · have : (l.take (pl + 1)).count t ≤ (l.take p0).count t := by
        have e : l.take (pl + 1) = (l.take p0).take (pl + 1) := by rw [List.take_take]; congr 1; omega
        rw [e]
        exact List.Sublist.count_le _ (List.take_sublist _ _)
      rw [take_count l t pl b2, ← rd_at l pl b2, if_pos b3] at this
      omega
    · exact h
  have hgp : ∀ j : Nat, j < (plF t l 0).length → 0 ≤ rd (plF t l 0) j ∧ rd (plF t l 0) j ≤ 64 := by
    intro j hj
    rw [hlen] at hj
    obtain ⟨p, q1, q2, _, _⟩ := get j hj
    rw [q1]; omega
  obtain ⟨g, hg, g1, g2, g3⟩ := gap_loop (plF t l 0) hgp (by omega) (l.count t - 1) 200 0 ((p0 : Int) + l.length - pl) (by omega) (by omega) (by omega) (by omega) (by omega)
  rw [hlen] at hg g3
  have e2 : ((l.count t - 1 : Nat) : Int) = ((l.count t : Nat) : Int) - 1 := by omega
  rw [e2]
  refine ⟨g, hg, by omega, g2, fun s => ?_⟩
  -- the first of the tenant's ticks from s on
  have hL : 0 < l.length := by omega
  have hm := Nat.mod_lt s hL
  have es : s = l.length * (s / l.length) + s % l.length := (Nat.div_add_mod s _).symm
  -- a tick y of the tenant, from s on, nearer than g
  have key : ∃ y : Nat, s ≤ y ∧ (y : Int) < s + g ∧ rd l ((y % l.length : Nat) : Int) = t := by
    by_cases hex : (l.take (s % l.length)).count t < l.count t
    · obtain ⟨p, q1, q2, q3, q4⟩ := get _ hex
      have hge : s % l.length ≤ p := by
        rcases Nat.lt_or_ge p (s % l.length) with h | h
        · have : (l.take (p + 1)).count t ≤ (l.take (s % l.length)).count t := by
            have e : l.take (p + 1) = (l.take (s % l.length)).take (p + 1) := by rw [List.take_take]; congr 1; omega
            rw [e]
            exact List.Sublist.count_le _ (List.take_sublist _ _)
          rw [take_count l t p q2, ← rd_at l p q2, if_pos q3] at this
          omega
        · exact h
      obtain ⟨d1, d2⟩ := divmod l.length (s / l.length) p hL
      rw [Nat.mod_eq_of_lt q2] at d2
      refine ⟨l.length * (s / l.length) + p, by omega, ?_, by rw [d2]; exact q3⟩
      by_cases hz : (l.take (s % l.length)).count t = 0
      · rw [hz] at q1
        have : (p : Int) = p0 := by rw [← q1]; exact a1'
        omega
      · obtain ⟨p', u1, u2, u3, u4⟩ := get ((l.take (s % l.length)).count t - 1) (by omega)
        have hlt : p' < s % l.length := by
          rcases Nat.lt_or_ge p' (s % l.length) with h | h
          · exact h
          · have : (l.take (s % l.length)).count t ≤ (l.take p').count t := by
              have e : l.take (s % l.length) = (l.take p').take (s % l.length) := by rw [List.take_take]; congr 1; omega
              rw [e]
              exact List.Sublist.count_le _ (List.take_sublist _ _)
            omega
        have := g3 ((l.take (s % l.length)).count t - 1) (by omega) (by omega)
        rw [show (l.take (s % l.length)).count t - 1 + 1 = (l.take (s % l.length)).count t by omega, q1, u1] at this
        omega
    · have hall : (l.take (s % l.length)).count t = l.count t := by
        have : (l.take (s % l.length)).count t ≤ l.count t := List.Sublist.count_le _ (List.take_sublist _ _)
        omega
      have hlt : pl < s % l.length := by
        rcases Nat.lt_or_ge pl (s % l.length) with h | h
        · exact h
        · have : (l.take (s % l.length)).count t ≤ (l.take pl).count t := by
            have e : l.take (s % l.length) = (l.take pl).take (s % l.length) := by rw [List.take_take]; congr 1; omega
            rw [e]
            exact List.Sublist.count_le _ (List.take_sublist _ _)
          omega
      obtain ⟨d1, d2⟩ := divmod l.length (s / l.length + 1) p0 hL
      rw [Nat.mod_eq_of_lt a2] at d2
      have em : l.length * (s / l.length + 1) = l.length * (s / l.length) + l.length := by rw [Nat.mul_add, Nat.mul_one]
      refine ⟨l.length * (s / l.length + 1) + p0, by omega, by omega, by rw [d2]; exact a3⟩
  obtain ⟨y, y1, y2, y3⟩ := key
  have c1 := cn_succ l t y hL
  rw [if_pos y3] at c1
  have c2 := cn_le l t hL y1
  have c3 := cn_le l t hL (show y + 1 ≤ s + g.toNat by omega)
  omega
theorem gap_many (l : List Int) (t : Int) (g : Int) (hg : 0 ≤ g) (h : ∀ s : Nat, cn l t s + 1 ≤ cn l t (s + g.toNat)) (s n : Nat) : cn l t s + n ≤ cn l t (s + n * g.toNat) := by
  induction n with
  | zero => simp
  | succ n ih =>
    have := h (s + n * g.toNat)
    have e : s + (n + 1) * g.toNat = s + n * g.toNat + g.toNat := by rw [Nat.succ_mul]; omega
    rw [e]
    omega
end Go.Proofs.Ytmfmliblieemiaa.QFr
