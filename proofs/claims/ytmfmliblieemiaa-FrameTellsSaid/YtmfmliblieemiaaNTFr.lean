/- FrameTells: what the document tells, as numbers; no program in sight. -/
import Derived.Test.YtmfmliblieemiaaNFr
namespace Go.Proofs.Ytmfmliblieemiaa.QFr
open Go.RowKit Go.Proofs.YtmfmliblieemiaaW.PrintWords Go.Proofs.YtmfmliblieemiaaW.PrintLast Go.Proofs.YtmfmliblieemiaaW.PrintMore
set_option linter.unusedVariables false
def tl (l : List Int) (t : Int) : Nat → Nat → Nat → List Int
  | 0, _, _ => []
  | d + 1, n, m => if m = 0 then [] else if rd l ((n % l.length : Nat) : Int) = t then (n : Int) :: tl l t d (n + 1) (m - 1) else tl l t d (n + 1) m
/-- What is told from `from` on, at most m. -/
def tells (l : List Int) (t fr : Int) (m : Nat) : List Int :=
  if okRow l then tl l t (1048577 - (mx fr 0)).toNat (mx fr 0).toNat m else []
theorem tl_len (l : List Int) (t : Int) : ∀ d n m, (tl l t d n m).length ≤ m
  | 0, _, _ => Nat.zero_le _
  | d + 1, n, m => by
    unfold tl
    split
    · exact Nat.zero_le _
    · split
      · have := tl_len l t d (n + 1) (m - 1)
        simp; omega
      · exact tl_len l t d (n + 1) m
theorem tl_succ (l : List Int) (t : Int) (d n m : Nat) : tl l t (d + 1) n m = if m = 0 then [] else if rd l ((n % l.length : Nat) : Int) = t then (n : Int) :: tl l t d (n + 1) (m - 1) else tl l t d (n + 1) m := rfl
theorem tl_zero (l : List Int) (t : Int) : ∀ d n, tl l t d n 0 = []
  | 0, _ => rfl
  | d + 1, n => by rw [tl_succ]; simp
theorem tmod_nat (x n : Nat) : Int.tmod (x : Int) (n : Int) = ((x % n : Nat) : Int) := by rw [Int.tmod_eq_emod_of_nonneg (by omega)]; rfl

theorem tl_none (l : List Int) (t : Int) (h : 1 ≤ l.length) (h0 : l.count t = 0) : ∀ d n m, tl l t d n m = []
  | 0, _, _ => rfl
  | d + 1, n, m => by
    rw [tl_succ]
    split
    · rfl
    · have hm := Nat.mod_lt n (show 0 < l.length by omega)
      rw [if_neg, tl_none l t h h0 d]
      intro e
      rw [rd_at l _ hm] at e
      exact absurd (List.count_pos_iff.2 (e ▸ List.getElem_mem hm)) (by omega)

theorem rall_loop (l : List Int) (t : Int) (m : Nat) (h : 1 ≤ l.length) (hm : m ≤ 60) (d : Nat) : ∀ (k : Nat) (x : Nat) (acc : List Int), x + d = 1048577 → 2 * d + 2 < k → acc.length ≤ m →
    rampartref19_All.l0 k l t m acc x = some (acc ++ tl l t d x (m - acc.length)) := by
  induction d with
  | zero =>
    intro k x acc hd hk ha
    obtain ⟨k, rfl⟩ : ∃ m, k = m + 2 := ⟨k - 2, by omega⟩
    simp only [rampartref19_All.l0, rampartref19_All.j1]
    rw [if_neg (by omega)]
    simp [tl]
  | succ d ih =>
    intro k x acc hd hk ha
    obtain ⟨k, rfl⟩ : ∃ m, k = m + 2 := ⟨k - 2, by omega⟩
    simp only [rampartref19_All.l0, rampartref19_All.j1]
    have hmm := Nat.mod_lt x (show 0 < l.length by omega)
    have e : wrap64 ((x : Int) + 1) = ((x + 1 : Nat) : Int) := by unfold wrap64; omega
    rw [if_pos (by omega), tl_succ, tmod_nat, e]
    by_cases c : acc.length < m
    · rw [decide_eq_true (by omega), if_pos rfl, if_neg (by omega), if_pos (by omega), if_pos (by omega), if_neg (by omega : ¬ m - acc.length = 0)]
      by_cases q : rd l ((x % l.length : Nat) : Int) = t
      · rw [if_pos q, if_pos q, if_pos (by omega), ih k (x + 1) (acc ++ [(x : Int)]) (by omega) (by omega) (by simp; omega)]
        simp [Nat.sub_sub]
      · rw [if_neg q, if_neg q, ih k (x + 1) acc (by omega) (by omega) ha]
    · rw [decide_eq_false (by omega), if_neg (by simp), if_pos (by omega)]
      simp

theorem rAll_ok (l : List Int) (t fr : Int) (m : Nat) (hm : m ≤ 60) (k : Nat) (hk : 2097200 ≤ k) : rampartref19_All.f k l t fr m = some (tells l t fr m) := by
  unfold rampartref19_All.f tells
  rw [row_is]
  simp only [Option.bind_some]
  cases hr : okRow l with
  | false => simp
  | true =>
    have r := okRow_iff hr
    rw [if_pos rfl, if_pos rfl, rshare_ok l t (by omega) k (by omega)]
    simp only [Option.bind_some]
    by_cases c : l.count t = 0
    · rw [if_pos (by omega), tl_none l t r.1 c]
    · rw [if_neg (by omega)]
      obtain ⟨x, hx⟩ : ∃ x : Nat, mx fr 0 = x := ⟨(mx fr 0).toNat, by unfold mx; split <;> omega⟩
      have hx' : mx 0 fr = x := by rw [← hx]; unfold mx; split <;> split <;> omega
      rw [hx, hx', Int.toNat_natCast]
      by_cases hb : x ≤ 1048577
      · rw [rall_loop l t m r.1 hm (1048577 - x) k x [] (by omega) (by omega) (by simp)]
        have : ((1048577 : Int) - x).toNat = 1048577 - x := by omega
        rw [this]; simp
      · have : ((1048577 : Int) - x).toNat = 0 := by omega
        rw [this]
        obtain ⟨k, rfl⟩ : ∃ m, k = m + 2 := ⟨k - 2, by omega⟩
        simp only [rampartref19_All.l0, rampartref19_All.j1]
        rw [if_neg (by omega)]
        simp [tl]
theorem same_loop (l : List Int) (hl : l.length ≤ 60) (d : Nat) : ∀ (k : Nat) (i : Nat), l.length - i = d → i ≤ l.length → d < k → rampartref19_Same.l0 k l l i = some true := by
  induction d with
  | zero =>
    intro k i hd hi hk
    obtain ⟨k, rfl⟩ : ∃ m, k = m + 1 := ⟨k - 1, by omega⟩
    simp only [rampartref19_Same.l0]
    rw [if_neg (by omega)]
  | succ d ih =>
    intro k i hd hi hk
    obtain ⟨k, rfl⟩ : ∃ m, k = m + 1 := ⟨k - 1, by omega⟩
    simp only [rampartref19_Same.l0]
    have e : wrap64 ((i : Int) + 1) = ((i + 1 : Nat) : Int) := by unfold wrap64; omega
    rw [if_pos (by omega), if_pos (by omega), if_pos (by omega), if_pos trivial, e, ih k (i + 1) (by omega) (by omega) (by omega)]
theorem same_ok (l : List Int) (hl : l.length ≤ 60) : rampartref19_Same.f 70 l l = some true := by
  unfold rampartref19_Same.f
  rw [if_pos rfl]
  exact same_loop l hl l.length 70 0 (by omega) (by omega) (by omega)
theorem tells_len (l : List Int) (t fr : Int) (m : Nat) : (tells l t fr m).length ≤ m := by
  unfold tells
  split
  · exact tl_len _ _ _ _ _
  · exact Nat.zero_le _
end Go.Proofs.Ytmfmliblieemiaa.QFr
