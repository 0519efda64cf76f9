/- Frames as numbers: how many of a tenant's ticks lie below one, which is the n-th, how far apart they are. No Go, no memory: the printed functions alone. -/
import Derived.Test.YtmfmliblieemiaaQFrx1
import Derived.Test.YtmfmliblieemiaaQFrx2
import Derived.Test.YtmfmliblieemiaaQFrx3
import Derived.Test.YtmfmliblieemiaaQFrx4
import Derived.Test.YtmfmliblieemiaaQFrx5
namespace Go.Proofs.Ytmfmliblieemiaa.QFr
open Go.RowKit Go.Proofs.YtmfmliblieemiaaW.PrintWords Go.Proofs.YtmfmliblieemiaaW.PrintLast Go.Proofs.YtmfmliblieemiaaW.PrintMore
set_option linter.unusedVariables false

theorem w64 (x : Int) (h0 : -9223372036854775808 ≤ x) (h1 : x ≤ 9223372036854775807) : wrap64 x = x := by unfold wrap64; omega
theorem w64n (m : Nat) (h : m ≤ 9223372036854775807) : wrap64 (m : Int) = m := by unfold wrap64; omega
theorem rd_at (l : List Int) (m : Nat) (h : m < l.length) : rd l (m : Int) = l[m] := by
  simp [rd, List.getD_eq_getElem?_getD, List.getElem?_eq_getElem h]

/-! ### How many of a tenant's ticks lie below n -/
def cn (l : List Int) (t : Int) (n : Nat) : Nat := n / l.length * l.count t + (l.take (n % l.length)).count t

theorem take_count (l : List Int) (t : Int) (m : Nat) (h : m < l.length) : (l.take (m + 1)).count t = (l.take m).count t + (if l[m] = t then 1 else 0) := by
  rw [List.take_succ_eq_append_getElem h, List.count_append, List.count_singleton]
  simp only [beq_iff_eq]
theorem divmod (L q r : Nat) (hL : 0 < L) : (L * q + r) / L = q + r / L ∧ (L * q + r) % L = r % L := ⟨Nat.mul_add_div hL q r, Nat.mul_add_mod L q r⟩

theorem cn_succ (l : List Int) (t : Int) (n : Nat) (hl : 0 < l.length) : cn l t (n + 1) = cn l t n + (if rd l ((n % l.length : Nat) : Int) = t then 1 else 0) := by
  have hm := Nat.mod_lt n hl
  rw [rd_at l _ hm]
  have e : n = l.length * (n / l.length) + n % l.length := (Nat.div_add_mod n _).symm
  have tc := take_count l t (n % l.length) hm
  unfold cn
  have e1 : n + 1 = l.length * (n / l.length) + (n % l.length + 1) := by omega
  obtain ⟨d1, d2⟩ := divmod l.length (n / l.length) (n % l.length + 1) hl
  rw [← e1] at d1 d2
  rw [d1, d2]
  by_cases c : n % l.length + 1 < l.length
  · rw [Nat.div_eq_of_lt c, Nat.mod_eq_of_lt c, tc]
    simp only [Nat.add_zero]
    omega
  · have c' : n % l.length + 1 = l.length := by omega
    rw [c', Nat.div_self hl, Nat.mod_self, List.take_zero, List.count_nil, Nat.add_mul, Nat.one_mul]
    rw [c', List.take_length] at tc
    omega
theorem cn_mono (l : List Int) (t : Int) (hl : 0 < l.length) (a d : Nat) : cn l t a ≤ cn l t (a + d) := by
  induction d with
  | zero => exact Nat.le_refl _
  | succ d ih =>
    have := cn_succ l t (a + d) hl
    rw [show a + (d + 1) = a + d + 1 by omega, this]
    omega
theorem cn_le (l : List Int) (t : Int) (hl : 0 < l.length) {a b : Nat} (h : a ≤ b) : cn l t a ≤ cn l t b := by
  have := cn_mono l t hl a (b - a)
  rwa [show a + (b - a) = b by omega] at this
theorem cn_round (l : List Int) (t : Int) (hl : 0 < l.length) (n q : Nat) : cn l t (n + q * l.length) = cn l t n + q * l.count t := by
  unfold cn
  have e : n + q * l.length = l.length * q + n := by rw [Nat.mul_comm]; omega
  obtain ⟨d1, d2⟩ := divmod l.length q n hl
  rw [e, d1, d2, Nat.add_mul]
  omega
theorem cn_self (l : List Int) (t : Int) (n : Nat) (hl : 0 < l.length) : cn l t n ≤ n := by
  induction n with
  | zero => simp [cn]
  | succ n ih => rw [cn_succ l t n hl]; split <;> omega
/-- Two ticks of the tenant with as many ahead of them are one. -/
theorem cn_inj (l : List Int) (t : Int) (hl : 0 < l.length) {a b : Nat} (ha : rd l ((a % l.length : Nat) : Int) = t) (hb : rd l ((b % l.length : Nat) : Int) = t) (h : cn l t a = cn l t b) : a = b := by
  rcases Nat.lt_trichotomy a b with c | c | c
  · have h1 := cn_succ l t a hl
    rw [if_pos ha] at h1
    have h2 := cn_le l t hl (show a + 1 ≤ b by omega)
    omega
  · exact c
  · have h1 := cn_succ l t b hl
    rw [if_pos hb] at h1
    have h2 := cn_le l t hl (show b + 1 ≤ a by omega)
    omega

/-! ### The loops that count -/
theorem share_loop (l : List Int) (t : Int) (hl : l.length ≤ 4611686018427387904) (d : Nat) : ∀ (k : Nat) (i : Nat) (acc : Int), l.length - i = d → i ≤ l.length → d < k → 0 ≤ acc → acc + d ≤ 4611686018427387904 →
    frame_row_share.l0 k t acc l l.length i = some (acc + ((l.drop i).count t : Nat)) := by
  induction d with
  | zero =>
    intro k i acc hd hi hk h0 h1
    obtain ⟨k, rfl⟩ : ∃ m, k = m + 1 := ⟨k - 1, by omega⟩
    simp only [frame_row_share.l0]
    rw [if_neg (by omega), show i = l.length by omega, List.drop_length, List.count_nil]
    simp
  | succ d ih =>
    intro k i acc hd hi hk h0 h1
    obtain ⟨k, rfl⟩ : ∃ m, k = m + 1 := ⟨k - 1, by omega⟩
    have hlt : i < l.length := by omega
    simp only [frame_row_share.l0]
    rw [if_pos (by omega), if_pos (by omega), if_pos (by omega), rd_at l i hlt, List.drop_eq_getElem_cons hlt, List.count_cons]
    have e : wrap64 ((i : Int) + 1) = ((i + 1 : Nat) : Int) := by unfold wrap64; omega
    have e' : wrap64 (acc + 1) = acc + 1 := by unfold wrap64; omega
    rw [e, e']
    by_cases c : l[i] = t
    · rw [if_pos c, ih k (i + 1) (acc + 1) (by omega) (by omega) (by omega) (by omega) (by omega)]
      simp only [beq_iff_eq, c, if_true]
      congr 1; omega
    · rw [if_neg c, ih k (i + 1) acc (by omega) (by omega) (by omega) (by omega) (by omega)]
      simp only [beq_iff_eq, c, if_false]
      congr 1
theorem share_ok (l : List Int) (t : Int) (hl : l.length ≤ 4611686018427387904) (k : Nat) (hk : l.length < k) : frame_row_share.f k l t = some ((l.count t : Nat) : Int) := by
  unfold frame_row_share.f
  have := share_loop l t hl l.length k 0 0 (by omega) (by omega) hk (by omega) (by omega)
  simpa using this
theorem rshare_loop (l : List Int) (t : Int) (hl : l.length ≤ 4611686018427387904) (d : Nat) : ∀ (k : Nat) (i : Nat) (acc : Int), l.length - i = d → i ≤ l.length → d < k → 0 ≤ acc → acc + d ≤ 4611686018427387904 →
    rampartref19_Share.l0 k l t acc i = some (acc + ((l.drop i).count t : Nat)) := by
  induction d with
  | zero =>
    intro k i acc hd hi hk h0 h1
    obtain ⟨k, rfl⟩ : ∃ m, k = m + 1 := ⟨k - 1, by omega⟩
    simp only [rampartref19_Share.l0]
    rw [if_neg (by omega), show i = l.length by omega, List.drop_length, List.count_nil]
    simp
  | succ d ih =>
    intro k i acc hd hi hk h0 h1
    obtain ⟨k, rfl⟩ : ∃ m, k = m + 1 := ⟨k - 1, by omega⟩
    have hlt : i < l.length := by omega
    simp only [rampartref19_Share.l0]
    rw [if_pos (by omega), if_pos (by omega), rd_at l i hlt, List.drop_eq_getElem_cons hlt, List.count_cons]
    have e : wrap64 ((i : Int) + 1) = ((i + 1 : Nat) : Int) := by unfold wrap64; omega
    have e' : wrap64 (acc + 1) = acc + 1 := by unfold wrap64; omega
    rw [e, e']
    by_cases c : l[i] = t
    · rw [if_pos c, ih k (i + 1) (acc + 1) (by omega) (by omega) (by omega) (by omega) (by omega)]
      simp only [beq_iff_eq, c, if_true]
      congr 1; omega
    · rw [if_neg c, ih k (i + 1) acc (by omega) (by omega) (by omega) (by omega) (by omega)]
      simp only [beq_iff_eq, c, if_false]
      congr 1
theorem rshare_ok (l : List Int) (t : Int) (hl : l.length ≤ 4611686018427387904) (k : Nat) (hk : l.length < k) : rampartref19_Share.f k l t = some ((l.count t : Nat) : Int) := by
  unfold rampartref19_Share.f
  have := rshare_loop l t hl l.length k 0 0 (by omega) (by omega) hk (by omega) (by omega)
  simpa using this

/-! ### Rows and ticks that may be -/
def okRow (l : List Int) : Bool := decide (1 ≤ l.length ∧ l.length ≤ 64)
def okTick (n : Int) : Bool := decide (0 ≤ n ∧ n ≤ 1048576)
theorem may_is (l : List Int) : frame_row_may.f l = some (okRow l) := by
  unfold frame_row_may.f okRow
  by_cases c : (l.length : Int) ≥ 1
  · rw [if_pos c]; congr 1; rw [decide_eq_decide]; omega
  · rw [if_neg c]; congr 1; symm; rw [decide_eq_false_iff_not]; omega
theorem row_is (l : List Int) : rampartref19_Row.f l = some (okRow l) := by
  unfold rampartref19_Row.f okRow
  by_cases c : (l.length : Int) ≥ 1
  · rw [if_pos c]; congr 1; rw [decide_eq_decide]; omega
  · rw [if_neg c]; congr 1; symm; rw [decide_eq_false_iff_not]; omega
theorem tick_is (n : Int) : frame_tick.f n = some (okTick n) := by
  unfold frame_tick.f okTick
  by_cases c : n ≥ 0
  · rw [if_pos c]; congr 1; rw [decide_eq_decide]; omega
  · rw [if_neg c]; congr 1; symm; rw [decide_eq_false_iff_not]; omega
theorem rtick_is (n : Int) : rampartref19_Tick.f n = some (okTick n) := by
  unfold rampartref19_Tick.f okTick
  by_cases c : n ≥ 0
  · rw [if_pos c]; congr 1; rw [decide_eq_decide]; omega
  · rw [if_neg c]; congr 1; symm; rw [decide_eq_false_iff_not]; omega
theorem okRow_iff {l : List Int} (h : okRow l = true) : 1 ≤ l.length ∧ l.length ≤ 64 := of_decide_eq_true h
theorem okTick_iff {n : Int} (h : okTick n = true) : 0 ≤ n ∧ n ≤ 1048576 := of_decide_eq_true h

/-! ### ahead, Windows -/
theorem count_le (l : List Int) (t : Int) : l.count t ≤ l.length := List.count_le_length
theorem cn_bound (l : List Int) (t : Int) (n : Nat) : n / l.length * l.count t ≤ n * 64 ∨ ¬ (l.length ≤ 64) := by
  by_cases h : l.length ≤ 64
  · exact .inl (Nat.mul_le_mul (Nat.div_le_self _ _) (Nat.le_trans (count_le l t) h))
  · exact .inr h
theorem ahead_ok (l : List Int) (t : Int) (n : Nat) (h1 : 1 ≤ l.length) (h2 : l.length ≤ 64) (hn : n ≤ 4194304) (k : Nat) (hk : l.length < k) : frame_row_ahead.f k l t n = some ((cn l t n : Nat) : Int) := by
  unfold frame_row_ahead.f
  have hm := Nat.mod_lt n (show 0 < l.length by omega)
  have e1 : Int.tmod (n : Int) (l.length : Int) = ((n % l.length : Nat) : Int) := by rw [Int.tmod_eq_emod_of_nonneg (by omega)]; rfl
  have e2 : Int.tdiv (n : Int) (l.length : Int) = ((n / l.length : Nat) : Int) := by rw [Int.tdiv_eq_ediv_of_nonneg (by omega)]; rfl
  rw [if_neg (by omega), e1, e2, Int.toNat_natCast, share_ok l t (by omega) k hk]
  simp only [Option.bind_some]
  have hlen : (l.take (n % l.length)).length = n % l.length := by rw [List.length_take]; omega
  rw [if_pos (by omega), if_pos (by omega), share_ok (l.take (n % l.length)) t (by rw [hlen]; omega) k (by rw [hlen]; omega)]
  simp only [Option.bind_some]
  have b1 := (cn_bound l t n).resolve_right (by omega)
  have b2 : (l.take (n % l.length)).count t ≤ 64 := Nat.le_trans (count_le _ _) (by rw [hlen]; omega)
  have b3 : n / l.length ≤ n := Nat.div_le_self _ _
  rw [w64n (n / l.length) (by omega), ← Int.natCast_mul, w64n (n / l.length * l.count t) (by omega), ← Int.natCast_add, w64n (n / l.length * l.count t + (l.take (n % l.length)).count t) (by omega)]
  rfl

def winRes (l : List Int) (t a b : Int) : Int × Int :=
  if okRow l && okTick a && okTick b then (((cn l t b.toNat - cn l t a.toNat : Nat) : Int), 0) else (0, 190)

theorem Windows_ok (l : List Int) (t a b : Int) (k : Nat) (hk : 70 ≤ k) : frame_Windows.f k l t a b = some (winRes l t a b) := by
  unfold frame_Windows.f winRes
  rw [may_is, tick_is, tick_is]
  simp only [Option.bind_some]
  have bad : frame_Windows.j0 k t a b l true = some (0, 190) := by
    obtain ⟨k, rfl⟩ : ∃ m, k = m + 1 := ⟨k - 1, by omega⟩
    simp only [frame_Windows.j0, if_true]
  cases hr : okRow l with
  | false => simpa using bad
  | true =>
    cases ha : okTick a with
    | false => simpa using bad
    | true =>
      cases hb : okTick b with
      | false => simpa using bad
      | true =>
        have r := okRow_iff hr
        have a1 := okTick_iff ha
        have b1 := okTick_iff hb
        simp only [if_true, Bool.and_self, Bool.not_true]
        obtain ⟨k, rfl⟩ : ∃ m, k = m + 1 := ⟨k - 1, by omega⟩
        simp only [frame_Windows.j0, Bool.false_eq_true, if_false]
        have ea := ahead_ok l t a.toNat r.1 r.2 (by omega) k (by omega)
        have eb := ahead_ok l t b.toNat r.1 r.2 (by omega) k (by omega)
        rw [Int.toNat_of_nonneg a1.1] at ea
        rw [Int.toNat_of_nonneg b1.1] at eb
        rw [ea, eb]
        simp only [Option.bind_some]
        have sa := cn_self l t a.toNat (by omega)
        have sb := cn_self l t b.toNat (by omega)
        rw [w64 _ (by omega) (by omega)]
        congr 2
        unfold mx
        split <;> omega

theorem rwin_loop (l : List Int) (t : Int) (b : Nat) (h1 : 1 ≤ l.length) (hb : b ≤ 4194304) (d : Nat) : ∀ (k : Nat) (x : Nat) (acc : Int), b - x = d → x ≤ b → d < k → 0 ≤ acc → acc + d ≤ 4611686018427387904 →
    rampartref19_Windows.l0 k l t b acc x = some (acc + ((cn l t b - cn l t x : Nat) : Int), 0) := by
  induction d with
  | zero =>
    intro k x acc hd hx hk h0 hacc
    obtain ⟨k, rfl⟩ : ∃ m, k = m + 1 := ⟨k - 1, by omega⟩
    simp only [rampartref19_Windows.l0]
    rw [if_neg (by omega), show x = b by omega]
    simp
  | succ d ih =>
    intro k x acc hd hx hk h0 hacc
    obtain ⟨k, rfl⟩ : ∃ m, k = m + 1 := ⟨k - 1, by omega⟩
    simp only [rampartref19_Windows.l0]
    have hm := Nat.mod_lt x (show 0 < l.length by omega)
    have e1 : Int.tmod (x : Int) (l.length : Int) = ((x % l.length : Nat) : Int) := by rw [Int.tmod_eq_emod_of_nonneg (by omega)]; rfl
    have e : wrap64 ((x : Int) + 1) = ((x + 1 : Nat) : Int) := by unfold wrap64; omega
    have e' : wrap64 (acc + 1) = acc + 1 := by unfold wrap64; omega
    rw [if_pos (by omega), if_neg (by omega), e1, if_pos (by omega), if_pos (by omega), e, e']
    have cs := cn_succ l t x (by omega)
    have cl := cn_le l t (by omega) (show x + 1 ≤ b by omega)
    by_cases c : rd l ((x % l.length : Nat) : Int) = t
    · rw [if_pos c] at cs ⊢
      rw [ih k (x + 1) (acc + 1) (by omega) (by omega) (by omega) (by omega) (by omega)]
      congr 2; omega
    · rw [if_neg c] at cs ⊢
      rw [ih k (x + 1) acc (by omega) (by omega) (by omega) (by omega) (by omega)]
      congr 2; omega

theorem rWindows_ok (l : List Int) (t a b : Int) : ∀ k, 1048700 ≤ k → rampartref19_Windows.f k l t a b = some (winRes l t a b) := by
  intro k hk
  unfold rampartref19_Windows.f winRes
  rw [row_is, rtick_is, rtick_is]
  simp only [Option.bind_some]
  have bad : rampartref19_Windows.j0 k l t a b true = some (0, 190) := by
    obtain ⟨k, rfl⟩ : ∃ m, k = m + 1 := ⟨k - 1, by omega⟩
    simp only [rampartref19_Windows.j0, if_true]
  cases hr : okRow l with
  | false => simpa using bad
  | true =>
    cases ha : okTick a with
    | false => simpa using bad
    | true =>
      cases hb : okTick b with
      | false => simpa using bad
      | true =>
        have r := okRow_iff hr
        have a1 := okTick_iff ha
        have b1 := okTick_iff hb
        obtain ⟨x, rfl⟩ := Int.eq_ofNat_of_zero_le a1.1
        obtain ⟨y, rfl⟩ := Int.eq_ofNat_of_zero_le b1.1
        simp only [if_true, Bool.and_self, Bool.not_true, Int.toNat_natCast]
        obtain ⟨k, rfl⟩ : ∃ m, k = m + 1 := ⟨k - 1, by omega⟩
        simp only [rampartref19_Windows.j0, Bool.false_eq_true, if_false]
        by_cases hle : y ≤ x
        · rw [if_pos (by omega)]
          have := cn_le l t (by omega) hle
          congr 2; omega
        · rw [if_neg (by omega), if_neg (by omega), rshare_ok l t (by omega) k (by omega)]
          simp only [Option.bind_some]
          have d1 : Int.tdiv ((y : Int) - x) (l.length : Int) = (((y - x) / l.length : Nat) : Int) := by
            rw [Int.tdiv_eq_ediv_of_nonneg (by omega), ← Int.natCast_sub (by omega)]; rfl
          rw [w64 ((y : Int) - x) (by omega) (by omega), d1]
          have q1 : (y - x) / l.length ≤ y - x := Nat.div_le_self _ _
          have q2 : (y - x) / l.length * l.length ≤ y - x := Nat.div_mul_le_self _ _
          have q3 : (y - x) / l.length * l.count t ≤ (y - x) * 64 := Nat.mul_le_mul q1 (Nat.le_trans (count_le l t) r.2)
          rw [w64n ((y - x) / l.length) (by omega), ← Int.natCast_mul, ← Int.natCast_mul, w64n ((y - x) / l.length * l.count t) (by omega), w64n ((y - x) / l.length * l.length) (by omega), ← Int.natCast_add, w64n (x + (y - x) / l.length * l.length) (by omega)]
          rw [rwin_loop l t y (by omega) (by omega) (y - (x + (y - x) / l.length * l.length)) k _ _ rfl (by omega) (by omega) (by omega) (by omega)]
          have cr := cn_round l t (by omega) x ((y - x) / l.length)
          have cm := cn_le l t (by omega) (show x + (y - x) / l.length * l.length ≤ y by omega)
          rw [cr] at cm ⊢
          congr 2; omega

/-! ### places -/
def plF (t : Int) : List Int → Nat → List Int
  | [], _ => []
  | x :: r, i => if x = t then (i : Int) :: plF t r (i + 1) else plF t r (i + 1)
theorem plF_length (t : Int) (l : List Int) : ∀ i, (plF t l i).length = l.count t := by
  induction l with
  | nil => intro i; rfl
  | cons x r ih =>
    intro i
    rw [plF, List.count_cons]
    by_cases c : x = t
    · rw [if_pos c, List.length_cons, ih]; simp [c]
    · rw [if_neg c, ih]; simp [c]
/-- The j-th place: it is the tenant's, and has j of its places ahead. -/
theorem plF_get (t : Int) (l : List Int) : ∀ (i j : Nat), j < l.count t → ∃ p : Nat, rd (plF t l i) j = ((i + p : Nat) : Int) ∧ p < l.length ∧ rd l p = t ∧ (l.take p).count t = j := by
  induction l with
  | nil => intro i j h; simp at h
  | cons x r ih =>
    intro i j h
    rw [List.count_cons] at h
    rw [plF]
    by_cases c : x = t
    · rw [if_pos c]
      cases j with
      | zero => exact ⟨0, by simp [rd], by simp, by simp [rd, c], by simp⟩
      | succ j =>
        simp only [beq_iff_eq, c, if_true] at h
        obtain ⟨p, h1, h2, h3, h4⟩ := ih (i + 1) j (by omega)
        refine ⟨p + 1, ?_, by simp; omega, ?_, ?_⟩
        · have : rd ((i : Int) :: plF t r (i + 1)) ((j + 1 : Nat) : Int) = rd (plF t r (i + 1)) (j : Int) := by simp [rd]
          rw [this, h1]; congr 1; omega
        · have : rd (x :: r) ((p + 1 : Nat) : Int) = rd r (p : Int) := by simp [rd]
          rw [this, h3]
        · rw [List.take_succ_cons, List.count_cons, h4]; simp [c]
    · rw [if_neg c]
      simp only [beq_iff_eq, c, if_false, Nat.add_zero] at h
      obtain ⟨p, h1, h2, h3, h4⟩ := ih (i + 1) j h
      refine ⟨p + 1, ?_, by simp; omega, ?_, ?_⟩
      · rw [h1]; congr 1; omega
      · have : rd (x :: r) ((p + 1 : Nat) : Int) = rd r (p : Int) := by simp [rd]
        rw [this, h3]
      · rw [List.take_succ_cons, List.count_cons, h4]; simp [c]
theorem places_loop (l : List Int) (t : Int) (hl : l.length ≤ 100) (d : Nat) : ∀ (k : Nat) (i : Nat) (acc : List Int), l.length - i = d → i ≤ l.length → d < k → acc.length ≤ i →
    frame_row_places.l0 k l t acc l.length i = some (acc ++ plF t (l.drop i) i) := by
  induction d with
  | zero =>
    intro k i acc hd hi hk h0
    obtain ⟨k, rfl⟩ : ∃ m, k = m + 1 := ⟨k - 1, by omega⟩
    simp only [frame_row_places.l0]
    rw [if_neg (by omega), show i = l.length by omega, List.drop_length]
    simp [plF]
  | succ d ih =>
    intro k i acc hd hi hk h0
    obtain ⟨k, rfl⟩ : ∃ m, k = m + 1 := ⟨k - 1, by omega⟩
    have hlt : i < l.length := by omega
    simp only [frame_row_places.l0]
    have e : wrap64 ((i : Int) + 1) = ((i + 1 : Nat) : Int) := by unfold wrap64; omega
    rw [if_pos (by omega), if_pos (by omega), if_pos (by omega), rd_at l i hlt, List.drop_eq_getElem_cons hlt, plF, e]
    by_cases c : l[i] = t
    · rw [if_pos c, if_pos c, if_pos (by omega), ih k (i + 1) _ (by omega) (by omega) (by omega) (by simp; omega)]
      simp
    · rw [if_neg c, if_neg c, ih k (i + 1) _ (by omega) (by omega) (by omega) (by omega)]
theorem places_ok (l : List Int) (t : Int) (hl : l.length ≤ 100) (k : Nat) (hk : 101 ≤ k) : frame_row_places.f k l t = some (plF t l 0) := by
  unfold frame_row_places.f
  have := places_loop l t hl l.length k 0 [] (by omega) (by omega) (by omega) (by simp)
  simpa using this

/-! ### Nth -/
/-- The n-th of a tenant's ticks from one on. -/
def nthAt (l : List Int) (t : Int) (a n : Nat) : Nat :=
  (cn l t a + n - 1) / l.count t * l.length + (rd (plF t l 0) (((cn l t a + n - 1) % l.count t : Nat) : Int)).toNat
theorem nthAt_is (l : List Int) (t : Int) (a n : Nat) (hs : 0 < l.count t) :
    rd l ((nthAt l t a n % l.length : Nat) : Int) = t ∧ cn l t (nthAt l t a n) = cn l t a + n - 1 ∧
    (nthAt l t a n : Int) = (((cn l t a + n - 1) / l.count t * l.length : Nat) : Int) + rd (plF t l 0) (((cn l t a + n - 1) % l.count t : Nat) : Int) ∧ rd (plF t l 0) (((cn l t a + n - 1) % l.count t : Nat) : Int) < l.length ∧ 0 ≤ rd (plF t l 0) (((cn l t a + n - 1) % l.count t : Nat) : Int) := by
  have hj := Nat.mod_lt (cn l t a + n - 1) hs
  obtain ⟨p, h1, h2, h3, h4⟩ := plF_get t l 0 _ hj
  rw [Nat.zero_add] at h1
  unfold nthAt
  rw [h1, Int.toNat_natCast]
  have hL : 0 < l.length := by omega
  obtain ⟨d1, d2⟩ := divmod l.length ((cn l t a + n - 1) / l.count t) p hL
  rw [Nat.div_eq_of_lt h2, Nat.add_zero] at d1
  rw [Nat.mod_eq_of_lt h2] at d2
  refine ⟨?_, ?_, by omega, by omega, by omega⟩
  · rw [Nat.mul_comm, d2, h3]
  · generalize hK : cn l t a + n - 1 = K at *
    unfold cn
    rw [Nat.mul_comm _ l.length, d1, d2, h4]
    have := Nat.div_add_mod K (l.count t)
    rw [Nat.mul_comm] at this
    omega
def nthRes (l : List Int) (t a n : Int) : Int × Int :=
  if okRow l && okTick a && decide (1 ≤ n) then
    (if l.count t = 0 ∨ 1048577 < n then (0, 5) else if (1048576 : Int) < (nthAt l t a.toNat n.toNat : Int) then (0, 5) else ((nthAt l t a.toNat n.toNat : Int), 0))
  else (0, 190)
theorem Nth_ok (l : List Int) (t a n : Int) (hn : n ≤ 9223372036854775807) (hn' : -9223372036854775808 ≤ n) (k : Nat) (hk : 120 ≤ k) : frame_Nth.f k l t a n = some (nthRes l t a n) := by
  unfold frame_Nth.f nthRes
  rw [may_is, tick_is]
  simp only [Option.bind_some]
  have bad : frame_Nth.j0 k t a n l true = some (0, 190) := by
    obtain ⟨k, rfl⟩ : ∃ m, k = m + 1 := ⟨k - 1, by omega⟩
    simp only [frame_Nth.j0, if_true]
  cases hr : okRow l with
  | false => simpa using bad
  | true =>
    cases ha : okTick a with
    | false => simpa using bad
    | true =>
      have r := okRow_iff hr
      have a1 := okTick_iff ha
      obtain ⟨x, rfl⟩ := Int.eq_ofNat_of_zero_le a1.1
      simp only [if_true, Bool.and_self, Bool.true_and, Int.toNat_natCast]
      by_cases c1 : n < 1
      · rw [decide_eq_true c1, if_neg (by simp; omega)]; exact bad
      · rw [decide_eq_false c1, if_pos (by simp; omega)]
        obtain ⟨m, rfl⟩ := Int.eq_ofNat_of_zero_le (show 0 ≤ n by omega)
        obtain ⟨k, rfl⟩ : ∃ m, k = m + 1 := ⟨k - 1, by omega⟩
        simp only [frame_Nth.j0, Bool.false_eq_true, if_false, Int.toNat_natCast]
        rw [places_ok l t (by omega) k (by omega)]
        simp only [Option.bind_some, plF_length]
        obtain ⟨k, rfl⟩ : ∃ m, k = m + 1 := ⟨k - 1, by omega⟩
        by_cases c2 : l.count t = 0
        · rw [if_pos (by omega), if_pos (.inl c2)]
          simp only [frame_Nth.j1, if_true]
        · rw [if_neg (by omega)]
          by_cases c3 : (m : Int) > 1048577
          · rw [decide_eq_true c3, if_pos (.inr (by omega))]
            simp only [frame_Nth.j1, if_true]
          · rw [decide_eq_false c3, if_neg (by omega)]
            simp only [frame_Nth.j1, Bool.false_eq_true, if_false, plF_length]
            rw [ahead_ok l t x r.1 r.2 (by omega) k (by omega)]
            simp only [Option.bind_some]
            have sx := cn_self l t x (by omega)
            have eK : wrap64 (wrap64 (((cn l t x : Nat) : Int) + (m : Int)) - 1) = ((cn l t x + m - 1 : Nat) : Int) := by unfold wrap64; omega
            rw [eK]
            have e1 : Int.tmod ((cn l t x + m - 1 : Nat) : Int) (l.count t : Nat) = (((cn l t x + m - 1) % l.count t : Nat) : Int) := by rw [Int.tmod_eq_emod_of_nonneg (by omega)]; rfl
            have e2 : Int.tdiv ((cn l t x + m - 1 : Nat) : Int) (l.count t : Nat) = (((cn l t x + m - 1) / l.count t : Nat) : Int) := by rw [Int.tdiv_eq_ediv_of_nonneg (by omega)]; rfl
            have hj := Nat.mod_lt (cn l t x + m - 1) (show 0 < l.count t by omega)
            rw [e1, e2, if_neg (by omega), if_pos (by omega), if_pos (by omega)]
            obtain ⟨n1, n2, n3, n4, n5⟩ := nthAt_is l t x m (by omega)
            have q1 : (cn l t x + m - 1) / l.count t ≤ cn l t x + m - 1 := Nat.div_le_self _ _
            have q2 : (cn l t x + m - 1) / l.count t * l.length ≤ (cn l t x + m - 1) * 64 := Nat.mul_le_mul q1 r.2
            rw [w64n ((cn l t x + m - 1) / l.count t) (by omega), ← Int.natCast_mul, w64n ((cn l t x + m - 1) / l.count t * l.length) (by omega), w64 _ (by omega) (by omega), ← n3, tick_is]
            simp only [Option.bind_some]
            unfold okTick
            by_cases c4 : (1048576 : Int) < (nthAt l t x m : Int)
            · rw [if_pos c4, if_neg (by simp; omega)]
            · rw [if_neg c4, if_pos (by simp; omega)]

theorem rnth_loop (l : List Int) (t : Int) (y : Nat) (h1 : 1 ≤ l.length) (hy : y ≤ 4611686018427387904) (hyt : Aside0 (rd l ((y % l.length : Nat) : Int) = t)) (d : Nat) : ∀ (k x kk : Nat), y - x = d → x ≤ y → d < k → 1 ≤ kk → cn l t x + kk = cn l t y + 1 →
    rampartref19_Nth.l0 k l t x kk = some (if (1048576 : Int) < (y : Int) then (0, 5) else ((y : Int), 0)) := by
  have stop : ∀ z : Int, (if z > 1048576 then some ((0 : Int), (5 : Int)) else some (z, 0)) = some (if 1048576 < z then (0, 5) else (z, 0)) := by
    intro z
    by_cases c : (1048576 : Int) < z
    · rw [if_pos c, if_pos c]
    · rw [if_neg c, if_neg c]
  induction d with
  | zero =>
    intro k x kk hd hx hk h0 he
    obtain ⟨k, rfl⟩ : ∃ m, k = m + 1 := ⟨k - 1, by omega⟩
    obtain rfl : x = y := by omega
    obtain rfl : kk = 1 := by omega
    simp only [rampartref19_Nth.l0]
    have hm := Nat.mod_lt x (show 0 < l.length by omega)
    have e1 : Int.tmod (x : Int) (l.length : Int) = ((x % l.length : Nat) : Int) := by rw [Int.tmod_eq_emod_of_nonneg (by omega)]; rfl
    have e2 : wrap64 (((1 : Nat) : Int) - 1) = 0 := by unfold wrap64; omega
    rw [e1, if_neg (by omega), if_pos (by omega), if_pos (by omega), if_pos hyt.out, if_pos e2, stop]
  | succ d ih =>
    intro k x kk hd hx hk h0 he
    obtain ⟨k, rfl⟩ : ∃ m, k = m + 1 := ⟨k - 1, by omega⟩
    have hL : 0 < l.length := h1
    have hxy : x + 1 ≤ y := by omega
    have hd' : y - (x + 1) = d := by omega
    have hk' : d < k := by omega
    have hx62 : (x : Int) ≤ 4611686018427387904 := by omega
    have hy' : cn l t y ≤ 4611686018427387904 := Nat.le_trans (cn_self l t y hL) hy
    clear hd hx hk hy
    have cs := cn_succ l t x hL
    have cl := cn_le l t hL hxy
    obtain ⟨p, hp⟩ : ∃ p, cn l t x = p := ⟨_, rfl⟩
    obtain ⟨q, hq⟩ : ∃ q, cn l t (x + 1) = q := ⟨_, rfl⟩
    obtain ⟨u, hu⟩ : ∃ u, cn l t y = u := ⟨_, rfl⟩
    rw [hp, hq] at cs
    rw [hq, hu] at cl
    rw [hp, hu] at he
    rw [hu] at hy'
    have ih' := fun kk' h h' => ih k (x + 1) kk' hd' hxy hk' h h'
    rw [hq, hu] at ih'
    clear hp hq hu ih
    simp only [rampartref19_Nth.l0]
    have hm := Nat.mod_lt x hL
    have e1 : Int.tmod (x : Int) (l.length : Int) = ((x % l.length : Nat) : Int) := by rw [Int.tmod_eq_emod_of_nonneg (Int.natCast_nonneg _)]; rfl
    have e : wrap64 ((x : Int) + 1) = ((x + 1 : Nat) : Int) := by unfold wrap64; omega
    rw [e1, if_neg (by omega), if_pos (by omega), if_pos (by omega), e]
    clear e e1 hm
    by_cases c : rd l ((x % l.length : Nat) : Int) = t
    · rw [if_pos c] at cs ⊢
      clear c
      by_cases hkk : kk ≤ 4611686018427387905
      · have e2 : wrap64 ((kk : Int) - 1) = ((kk - 1 : Nat) : Int) := by unfold wrap64; omega
        rw [e2, if_neg (by omega)]
        exact ih' (kk - 1) (by omega) (by omega)
      · omega
    · rw [if_neg c] at cs ⊢
      clear c
      rw [if_neg (by omega)]
      exact ih' kk (by omega) (by omega)
theorem rNth_ok (l : List Int) (t a n : Int) (hn : n ≤ 9223372036854775807) (hn' : -9223372036854775808 ≤ n) (k : Nat) (hk : 268435456 ≤ k) : rampartref19_Nth.f k l t a n = some (nthRes l t a n) := by
  unfold rampartref19_Nth.f nthRes
  rw [row_is, rtick_is]
  simp only [Option.bind_some]
  have bad : rampartref19_Nth.j0 k l t a n true = some (0, 190) := by
    obtain ⟨k, rfl⟩ : ∃ m, k = m + 1 := ⟨k - 1, by omega⟩
    simp only [rampartref19_Nth.j0, if_true]
  cases hr : okRow l with
  | false => simpa using bad
  | true =>
    cases ha : okTick a with
    | false => simpa using bad
    | true =>
      have r := okRow_iff hr
      have a1 := okTick_iff ha
      obtain ⟨x, rfl⟩ := Int.eq_ofNat_of_zero_le a1.1
      simp only [if_true, Bool.and_self, Bool.true_and, Int.toNat_natCast]
      by_cases c1 : n < 1
      · rw [decide_eq_true c1, if_neg (by simp; omega)]; exact bad
      · rw [decide_eq_false c1, if_pos (by simp; omega)]
        obtain ⟨m, rfl⟩ := Int.eq_ofNat_of_zero_le (show 0 ≤ n by omega)
        obtain ⟨k, rfl⟩ : ∃ m, k = m + 1 := ⟨k - 1, by omega⟩
        simp only [rampartref19_Nth.j0, Bool.false_eq_true, if_false, Int.toNat_natCast]
        rw [rshare_ok l t (by omega) k (by omega)]
        simp only [Option.bind_some]
        obtain ⟨k, rfl⟩ : ∃ m, k = m + 1 := ⟨k - 1, by omega⟩
        by_cases c2 : l.count t = 0
        · rw [if_pos (by omega), if_pos (.inl c2)]
          simp only [rampartref19_Nth.j1, if_true]
        · rw [if_neg (by omega)]
          by_cases c3 : (m : Int) > 1048577
          · rw [decide_eq_true c3, if_pos (.inr (by omega))]
            simp only [rampartref19_Nth.j1, if_true]
          · rw [decide_eq_false c3, if_neg (by omega)]
            simp only [rampartref19_Nth.j1, Bool.false_eq_true, if_false]
            rw [if_neg (by omega), w64 ((m : Int) - 1) (by omega) (by omega)]
            have eM : (m : Int) - 1 = ((m - 1 : Nat) : Int) := by omega
            have e2 : Int.tdiv ((m - 1 : Nat) : Int) (l.count t : Nat) = (((m - 1) / l.count t : Nat) : Int) := by rw [Int.tdiv_eq_ediv_of_nonneg (by omega)]; rfl
            rw [eM, e2]
            have q1 : (m - 1) / l.count t ≤ m - 1 := Nat.div_le_self _ _
            have q2 : (m - 1) / l.count t * l.length ≤ (m - 1) * 64 := Nat.mul_le_mul q1 r.2
            have q3 : (m - 1) / l.count t * l.count t ≤ m - 1 := Nat.div_mul_le_self _ _
            have q4 := Nat.mod_lt (m - 1) (show 0 < l.count t by omega)
            have q5 := Nat.div_add_mod (m - 1) (l.count t)
            rw [Nat.mul_comm] at q5
            have cl := count_le l t
            rw [w64n ((m - 1) / l.count t) (by omega), ← Int.natCast_mul, w64n ((m - 1) / l.count t * l.length) (by omega), ← Int.natCast_add, w64n (x + (m - 1) / l.count t * l.length) (by omega), ← Int.natCast_mul, w64n ((m - 1) / l.count t * l.count t) (by omega)]
            have eK : (m : Int) - (((m - 1) / l.count t * l.count t : Nat) : Int) = ((m - (m - 1) / l.count t * l.count t : Nat) : Int) := by omega
            rw [w64 _ (by omega) (by omega), eK]
            obtain ⟨n1, n2, n3, n4, n5⟩ := nthAt_is l t x m (by omega)
            have cr := cn_round l t (by omega) x ((m - 1) / l.count t)
            have sx := cn_self l t x (by omega)
            have p1 : (cn l t x + m - 1) / l.count t ≤ cn l t x + m - 1 := Nat.div_le_self _ _
            have p2 : (cn l t x + m - 1) / l.count t * l.length ≤ (cn l t x + m - 1) * 64 := Nat.mul_le_mul p1 r.2
            have hxy : x + (m - 1) / l.count t * l.length ≤ nthAt l t x m := by
              rcases Nat.lt_or_ge (nthAt l t x m) (x + (m - 1) / l.count t * l.length) with h | h
              · have c5 := cn_succ l t (nthAt l t x m) (by omega)
                rw [if_pos n1] at c5
                have c6 := cn_le l t (by omega) (show nthAt l t x m + 1 ≤ x + (m - 1) / l.count t * l.length by omega)
                omega
              · exact h
            rw [rnth_loop l t (nthAt l t x m) (by omega) (by omega) ⟨n1⟩ (nthAt l t x m - (x + (m - 1) / l.count t * l.length)) k _ _ rfl hxy (by omega) (by omega) (by omega)]
end Go.Proofs.Ytmfmliblieemiaa.QFr
