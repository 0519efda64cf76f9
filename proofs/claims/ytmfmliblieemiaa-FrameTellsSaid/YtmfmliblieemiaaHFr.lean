/- Frames: the functions that the print does not take (the search by a function value, the check of a frame, the example), walked by hand. -/
import Derived.Test.YtmfmliblieemiaaMFr
import Derived.Lib.Hide
namespace Go.Proofs.Ytmfmliblieemiaa.QFr
open Go.RowKit Go.Proofs.YtmfmliblieemiaaW.PrintWords Go.Proofs.YtmfmliblieemiaaW.PrintLast Go.Proofs.YtmfmliblieemiaaW.PrintMore
set_option linter.unusedVariables false
set_option linter.unusedSimpArgs false

def chkB (t x : Int) : Bool := decide (x < 0) || decide (t ≤ x)

theorem chk1 (x t : Int) (B : Nat) (w : World) (hc : w.cell? ⟨B, 0, none⟩ = some (.int .i64 t)) :
    Calls Try.prog 40 #[.int .i64 x, .pointer (some ⟨B, 0, none⟩)] w fun e w' => e = .returned (.bool (chkB t x)) ∧ Drawn0 w w' := by
  by_cases h : x < 0
  · have e : chkB t x = true := by unfold chkB; simp [h]
    rw [e]
    go_enter Try.func40, Try.ntmps40
    go_wp2
    go_ret
    exact ⟨rfl, Drawn0.refl _⟩
  · have e : chkB t x = decide (t ≤ x) := by unfold chkB; simp [h]
    rw [e]
    have hb : decide (x < 0) = false := decide_eq_false h
    go_enter Try.func40, Try.ntmps40
    go_wp2
    go_ret
    exact ⟨rfl, Drawn0.refl _⟩

/-- Where the first one is for which p holds, from place i on; below 0: there is none. -/
def idxF (p : Int → Bool) : List Int → Int → Int
  | [], _ => -1
  | x :: r, i => if p x then i else idxF p r (i + 1)

set_option maxHeartbeats 400000 in
theorem IndexFunc (A : Option Addr) (c : Nat) (l : List Int) (t : Int) (B : Nat) (w : World) (hr : Kd.C (Kd.int .i64) w A l.length l) (hc : w.cell? ⟨B, 0, none⟩ = some (.int .i64 t)) :
    Calls Try.prog 47 #[.slice A l.length c, .func (.func 40) #[] #[.pointer (some ⟨B, 0, none⟩)]] w fun e w' => e = .returned (.int .i64 (idxF (chkB t) l 0)) ∧ Drawn0 w w' := by
  have HR := Aside0.mk hr
  have hl := hr.2.1
  clear hr
  go_enter Try.func47, Try.ntmps47
  go_wp2
  go_loopw [8] (fun i wr => ∃ k : Nat, k ≤ l.length ∧ i = .int .i64 k ∧ Aside0 (idxF (chkB t) l 0 = idxF (chkB t) (l.drop k) k) ∧ Drawn0 w wr) (fun i _ => l.length - (intOf i).toNat)
  case atStart => exact ⟨0, Nat.zero_le _, rfl, ⟨rfl⟩, Drawn0.refl _⟩
  case round =>
    obtain ⟨k, hk, rfl, hidx, hd⟩ := hrel
    have hcb : wr.cell? ⟨B, 0, none⟩ = some (.int .i64 t) := pw_cell_below hd.below hc
    by_cases hlt : k < l.length
    · obtain ⟨ad, rfl, hcell⟩ := Kd.at_int (Kd.C_below HR.out hd.below) (k : Int) (by omega) (by omega)
      rw [Int.toNat_natCast] at hcell
      have hs : Aside0 (idxF (chkB t) (l.drop k) k = if chkB t (rd l k) then (k : Int) else idxF (chkB t) (l.drop (k + 1)) (k + 1 : Nat)) := by
        have e : l.drop k = rd l k :: l.drop (k + 1) := by
          rw [List.drop_eq_getElem_cons hlt]
          simp [rd, List.getD_eq_getElem?_getD, List.getElem?_eq_getElem hlt]
        rw [e, idxF]
        exact ⟨by simp⟩
      cases hp : chkB t (rd l k) with
      | true =>
        go_wp2_with (go_at_call 40; refine (chk1 (rd l k) t B wr hcb).mono ?_; rw [hp]; rintro e w' ⟨rfl, ⟨nd, rfl⟩⟩)
        go_ret
        exact ⟨by rw [hidx.out, hs.out, hp]; rfl, hd.step nd⟩
      | false =>
        go_wp2_with (go_at_call 40; refine (chk1 (rd l k) t B wr hcb).mono ?_; rw [hp]; rintro e w' ⟨rfl, ⟨nd, rfl⟩⟩)
        go_roundw
        case rel => exact ⟨k + 1, by omega, by go_num, ⟨by rw [hidx.out, hs.out, hp]; simp⟩, hd.step nd⟩
        case measure => simp [intOf]; omega
    · obtain rfl : k = l.length := by omega
      go_wp2
      go_ret
      exact ⟨by rw [hidx.out, List.drop_length]; rfl, hd⟩

theorem idxF_any (p : Int → Bool) (l : List Int) : ∀ i : Int, 0 ≤ i → decide (0 ≤ idxF p l i) = l.any p := by
  induction l with
  | nil => intro i hi; rfl
  | cons x r ih =>
    intro i hi
    rw [idxF, List.any_cons]
    cases hp : p x with
    | true => simp [hi]
    | false => simpa [hp] using ih (i + 1) (by omega)

set_option maxHeartbeats 400000 in
theorem ContainsFunc (A : Option Addr) (c : Nat) (l : List Int) (t : Int) (B : Nat) (w : World) (hr : Kd.C (Kd.int .i64) w A l.length l) (hc : w.cell? ⟨B, 0, none⟩ = some (.int .i64 t)) :
    Calls Try.prog 39 #[.slice A l.length c, .func (.func 40) #[] #[.pointer (some ⟨B, 0, none⟩)]] w fun e w' => e = .returned (.bool (l.any (chkB t))) ∧ Drawn0 w w' := by
  have HA := Lib.hid (idxF_any (chkB t) l 0 (by omega))
  have HR := Aside0.mk hr
  clear hr
  go_enter Try.func39, Try.ntmps39
  go_wp2_with (go_at_call 47; refine (IndexFunc A c l t B w HR.out hc).mono ?_; rintro e w' ⟨rfl, ⟨nd, rfl⟩⟩)
  go_ret
  exact ⟨by rw [← HA.out]; rfl, ⟨⟨nd, rfl⟩⟩⟩

/-- The search for a number, as the print has it. -/
theorem index_ok (l : List Int) (t : Int) (hl : l.length ≤ 9223372036854775807) (d : Nat) : ∀ (k : Nat) (i : Int), 0 ≤ i → (l.length : Int) - i = d → d < k →
    ∃ r, slices_Index_int_int.l0 k l t l.length i = some r ∧ (0 ≤ r ↔ ∃ j : Nat, i ≤ j ∧ j < l.length ∧ rd l j = t) := by
  induction d with
  | zero =>
    intro k i h0 hd hk
    obtain ⟨k, rfl⟩ : ∃ m, k = m + 1 := ⟨k - 1, by omega⟩
    refine ⟨-1, ?_, ?_⟩
    · simp only [slices_Index_int_int.l0]; rw [if_neg (by omega)]
    · constructor
      · intro h; omega
      · rintro ⟨j, h1, h2, _⟩; omega
  | succ d ih =>
    intro k i h0 hd hk
    obtain ⟨k, rfl⟩ : ∃ m, k = m + 1 := ⟨k - 1, by omega⟩
    simp only [slices_Index_int_int.l0]
    rw [if_pos (by omega), if_pos h0, if_pos (by omega)]
    by_cases c : t = rd l i
    · rw [if_pos c]
      refine ⟨i, rfl, ⟨fun _ => ⟨i.toNat, by omega, by omega, ?_⟩, fun _ => h0⟩⟩
      rw [Int.toNat_of_nonneg h0, c]
    · rw [if_neg c]
      have e : wrap64 (i + 1) = i + 1 := by unfold wrap64; omega
      rw [e]
      obtain ⟨r, hr, hiff⟩ := ih k (i + 1) (by omega) (by omega) (by omega)
      refine ⟨r, hr, hiff.trans ⟨?_, ?_⟩⟩
      · rintro ⟨j, h1, h2, h3⟩; exact ⟨j, by omega, h2, h3⟩
      · rintro ⟨j, h1, h2, h3⟩
        refine ⟨j, ?_, h2, h3⟩
        by_cases h : i = j
        · subst h; exact absurd h3.symm c
        · omega
theorem rd_mem (l : List Int) (t : Int) : (∃ j : Nat, (0 : Int) ≤ j ∧ j < l.length ∧ rd l j = t) ↔ t ∈ l := by
  constructor
  · rintro ⟨j, _, h2, h3⟩
    have : rd l j = l[j] := by simp [rd, List.getD_eq_getElem?_getD, List.getElem?_eq_getElem h2]
    rw [← h3, this]
    exact List.getElem_mem _
  · intro h
    obtain ⟨j, hj, rfl⟩ := List.getElem_of_mem h
    exact ⟨j, by omega, hj, by simp [rd, List.getD_eq_getElem?_getD, List.getElem?_eq_getElem hj]⟩
theorem contains_ok (l : List Int) (t : Int) (hl : l.length ≤ 9223372036854775807) : slices_Contains_int_int.f (l.length + 1) l t = some (decide (t ∈ l)) := by
  obtain ⟨r, hr, hiff⟩ := index_ok l t hl l.length (l.length + 1) 0 (by omega) (by omega) (by omega)
  unfold slices_Contains_int_int.f slices_Index_int_int.f
  rw [hr]
  simp only [Option.bind_some]
  congr 1
  rw [decide_eq_decide, ← rd_mem, ← hiff]

/-- What Check tells. -/
def chkRes (l : List Int) (n : Int) : Int :=
  if n < 1 ∨ 16 < n ∨ (l.length : Int) < 1 ∨ 64 < (l.length : Int) then 190
  else if l.any (chkB n) then 190
  else if (List.range n.toNat).all fun t => decide ((t : Int) ∈ l) then 0 else 190
theorem may_ok (l : List Int) : frame_row_may.f l = some (decide (1 ≤ l.length ∧ l.length ≤ 64)) := by
  unfold frame_row_may.f
  by_cases c : (l.length : Int) ≥ 1
  · rw [if_pos c]; congr 1; rw [decide_eq_decide]; omega
  · rw [if_neg c]; congr 1; symm; rw [decide_eq_false_iff_not]; omega

set_option maxHeartbeats 1000000 in
theorem Check_early (A : Option Addr) (c : Nat) (l : List Int) (n : Int) (w : World) (hr : Kd.C (Kd.int .i64) w A l.length l) (hlc : l.length ≤ c) (h : n < 1 ∨ 16 < n ∨ (l.length : Int) < 1 ∨ 64 < (l.length : Int)) :
    Calls Try.prog 22 #[.slice A l.length c, .int .i64 n] w fun e w' => e = .returned (.int .i64 190) ∧ Below w.heap.size w w' := by
  have HR := Aside0.mk hr
  clear hr
  by_cases h1 : n < 1
  · have b1 : decide (n < 1) = true := decide_eq_true h1
    clear h
    go_enter Try.func22, Try.ntmps22
    go_wp2
    go_ret
    exact ⟨rfl, (Below.refl _ _).alloc (Nat.le_refl _) _⟩
  by_cases h2 : 16 < n
  · have b1 : decide (n < 1) = false := decide_eq_false h1
    have b2 : decide (16 < n) = true := decide_eq_true h2
    clear h
    go_enter Try.func22, Try.ntmps22
    go_wp2
    go_ret
    exact ⟨rfl, (Below.refl _ _).alloc (Nat.le_refl _) _⟩
  have b1 : decide (n < 1) = false := decide_eq_false h1
  have b2 : decide (16 < n) = false := decide_eq_false h2
  have hm : frame_row_may.f l = some false := by rw [may_ok]; congr 1; rw [decide_eq_false_iff_not]; omega
  have HM := Lib.hid hm
  clear h hm
  go_enter Try.func22, Try.ntmps22
  go_wp2_with (go_at_call 33; refine (frame_row_may.calls A c l false _ (Kd.C_alloc HR.out _) hlc HM.out).mono ?_; rintro e w' ⟨rfl, ⟨nd, rfl⟩⟩)
  go_ret
  exact ⟨rfl, pw_below_drewN ((Below.refl _ _).alloc (Nat.le_refl _) _) _⟩

theorem hmf (fn : Fn) (first cap : Array Value) (w : World) : (Instr.makeFunc fn first cap).run Try.prog w = .ok (.func fn first cap) w := rfl

def chkAll (l : List Int) (m : Nat) : Bool := (List.range m).all fun t => decide ((t : Int) ∈ l)
def chkR (l : List Int) (m : Nat) : Int := if chkAll l m then 0 else 190

set_option maxHeartbeats 1000000 in
theorem Check_any (A : Option Addr) (c : Nat) (l : List Int) (n : Int) (w : World) (hr : Kd.C (Kd.int .i64) w A l.length l) (hlc : l.length ≤ c) (h1 : ¬ n < 1) (h2 : ¬ 16 < n) (hm : frame_row_may.f l = some true) (ha : l.any (chkB n) = true) :
    Calls Try.prog 22 #[.slice A l.length c, .int .i64 n] w fun e w' => e = .returned (.int .i64 190) ∧ Below w.heap.size w w' := by
  have HR := Aside0.mk hr
  have b1 : decide (n < 1) = false := decide_eq_false h1
  have b2 : decide (16 < n) = false := decide_eq_false h2
  have HM := Lib.hid hm
  have HA := Lib.hid ha
  clear hr hm ha h1 h2
  have hmf' := hmf
  go_enter Try.func22, Try.ntmps22
  go_wp2_with (first | (go_at_call 33; refine (frame_row_may.calls A c l true _ (Kd.C_alloc HR.out _) hlc HM.out).mono ?_; rintro e w' ⟨rfl, ⟨nd, rfl⟩⟩) | (go_at_call 39; refine (ContainsFunc A c l n w.heap.size _ (Kd.C_drewN (Kd.C_alloc HR.out _) _) (by go_simp)).mono ?_; rw [HA.out]; rintro e w' ⟨rfl, ⟨nd2, rfl⟩⟩))
  go_ret
  exact ⟨rfl, by repeat (first | exact Below.refl _ _ | apply below_alloc | apply pw_below_drewN | apply below_drew1)⟩

set_option maxHeartbeats 1000000 in
theorem Check_loop (A : Option Addr) (c : Nat) (l : List Int) (m : Nat) (w : World) (hr : Kd.C (Kd.int .i64) w A l.length l) (hlc : l.length ≤ c) (h1 : 1 ≤ m) (h2 : m ≤ 16) (hm : frame_row_may.f l = some true) (ha : l.any (chkB m) = false) :
    Calls Try.prog 22 #[.slice A l.length c, .int .i64 m] w fun e w' => e = .returned (.int .i64 (chkR l m)) ∧ Below w.heap.size w w' := by
  have HR := Aside0.mk hr
  have hll := hr.2.1
  have b1 : decide ((m : Int) < 1) = false := decide_eq_false (by omega)
  have b2 : decide ((16 : Int) < m) = false := decide_eq_false (by omega)
  have HM := Lib.hid hm
  have HA := Lib.hid ha
  clear hr hm ha
  have hmf' := hmf
  go_enter Try.func22, Try.ntmps22
  go_wp2_with (first | (go_at_call 33; refine (frame_row_may.calls A c l true _ (Kd.C_alloc HR.out _) hlc HM.out).mono ?_; rintro e w' ⟨rfl, ⟨nd, rfl⟩⟩) | (go_at_call 39; refine (ContainsFunc A c l m w.heap.size _ (Kd.C_drewN (Kd.C_alloc HR.out _) _) (by go_simp)).mono ?_; rw [HA.out]; rintro e w' ⟨rfl, ⟨nd2, rfl⟩⟩))
  clear b1 b2
  go_loopw [21] (fun i wr => ∃ k : Nat, k ≤ m ∧ i = .int .i64 k ∧ Aside0 (∀ j : Nat, j < k → (j : Int) ∈ l) ∧ Aside0 (Kd.C (Kd.int .i64) wr A l.length l) ∧ Aside0 (Below w.heap.size w wr)) (fun i _ => m - (intOf i).toNat)
  case atStart =>
    refine ⟨0, Nat.zero_le _, rfl, ⟨fun j hj => by omega⟩, ⟨?_⟩, ⟨?_⟩⟩
    · repeat (first | exact HR.out | (with_reducible refine Kd.C_alloc ?_ _) | (with_reducible refine Kd.C_drewN ?_ _))
    · repeat (first | exact Below.refl _ _ | apply below_alloc | apply pw_below_drewN | apply below_drew1)
  case round =>
    obtain ⟨k, hk, rfl, hmem, HK, HB⟩ := hrel
    by_cases hlt : k < m
    · have hco := Lib.hid (contains_ok l (k : Int) hll)
      by_cases hin : (k : Int) ∈ l
      · have HC : Aside0 (slices_Contains_int_int.f (l.length + 1) l k = some true) := ⟨by rw [hco.out]; simp [hin]⟩
        have HN : Aside0 (∀ j : Nat, j < k + 1 → (j : Int) ∈ l) := ⟨fun j hj => by
          by_cases e : j = k
          · rw [e]; exact hin
          · exact hmem.out j (by omega)⟩
        clear hco hin hmem
        go_wp2_with (go_at_call 41; refine (slices_Contains_int_int.calls (l.length + 1) A c l k true _ HK.out hlc HC.out).mono ?_; rintro e w' ⟨rfl, ⟨nd3, rfl⟩⟩)
        go_roundw
        case rel => exact ⟨k + 1, by omega, by go_num, HN, ⟨Kd.C_drewN HK.out _⟩, ⟨pw_below_drewN HB.out _⟩⟩
        case measure => simp [intOf]; omega
      · have HC : Aside0 (slices_Contains_int_int.f (l.length + 1) l k = some false) := ⟨by rw [hco.out]; simp [hin]⟩
        have HF : Aside0 (chkAll l m = false) := ⟨by
          unfold chkAll
          rw [List.all_eq_false]
          exact ⟨k, List.mem_range.2 hlt, by simpa using hin⟩⟩
        clear hco hin hmem
        go_wp2_with (go_at_call 41; refine (slices_Contains_int_int.calls (l.length + 1) A c l k false _ HK.out hlc HC.out).mono ?_; rintro e w' ⟨rfl, ⟨nd3, rfl⟩⟩)
        go_ret
        exact ⟨by rw [chkR, HF.out]; rfl, pw_below_drewN HB.out _⟩
    · obtain rfl : k = m := by omega
      have HT : Aside0 (chkAll l k = true) := ⟨by
        unfold chkAll
        rw [List.all_eq_true]
        intro x hx
        simpa using hmem.out x (List.mem_range.1 hx)⟩
      clear hmem
      go_wp2
      go_ret
      exact ⟨by rw [chkR, HT.out]; rfl, HB.out⟩

/-- What Check tells. -/
def chkTell (l : List Int) (n : Int) : Int :=
  if n < 1 ∨ 16 < n ∨ (l.length : Int) < 1 ∨ 64 < (l.length : Int) then 190
  else if l.any (chkB n) then 190 else chkR l n.toNat
theorem Check (A : Option Addr) (c : Nat) (l : List Int) (n : Int) (w : World) (hr : Kd.C (Kd.int .i64) w A l.length l) (hlc : l.length ≤ c) :
    Calls Try.prog 22 #[.slice A l.length c, .int .i64 n] w fun e w' => e = .returned (.int .i64 (chkTell l n)) ∧ Below w.heap.size w w' := by
  unfold chkTell
  by_cases h : n < 1 ∨ 16 < n ∨ (l.length : Int) < 1 ∨ 64 < (l.length : Int)
  · rw [if_pos h]; exact Check_early A c l n w hr hlc h
  · rw [if_neg h]
    have hm : frame_row_may.f l = some true := by rw [may_ok]; congr 1; rw [decide_eq_true_iff]; omega
    cases ha : l.any (chkB n) with
    | true => exact Check_any A c l n w hr hlc (by omega) (by omega) hm ha
    | false =>
      obtain ⟨m, rfl⟩ := Int.eq_ofNat_of_zero_le (show 0 ≤ n by omega)
      exact Check_loop A c l m w hr hlc (by omega) (by omega) hm ha

/-! ### cut: at most 65 numbers are looked at -/
def CutPost (A : Option Addr) (l : List Int) (w : World) (e : Ending) (w' : World) : Prop :=
  ∃ (l' : List Int) (c' : Nat), e = .returned (.slice A l'.length c') ∧ Aside0 (l'.length ≤ c') ∧ Aside0 (l' = l.take 65) ∧ Aside0 (Kd.C (Kd.int .i64) w A l'.length l') ∧ w = w'
set_option maxHeartbeats 400000 in
theorem cut_read (A : Option Addr) (c : Nat) (l : List Int) (w : World) (hr : Kd.C (Kd.int .i64) w A l.length l) (hlc : l.length ≤ c) :
    Calls Try.prog 10 #[.slice A l.length c] w (CutPost A l w) := by
  have HR := Aside0.mk hr
  clear hr
  by_cases h : 65 < l.length
  · obtain ⟨i0, hi, _, hsz, _⟩ := info_parts info3
    obtain ⟨hcut, hA, hC⟩ := print_take_of (P := Try.prog) (Value.int .i64) 0 22 3 .i64 Try.underlying22 hi hsz A c l 65 (by omega) (by omega) hlc
    have hl : (l.take (65 : Int).toNat).length = 65 := by rw [List.length_take]; omega
    rw [hl] at hcut
    have HK : Aside0 (Kd.C (Kd.int .i64) w A (l.take 65).length (l.take 65)) := ⟨Kd.C_of_reads (h1 := fun _ => rfl) (hA _ (Kd.reads_of_C HR.out))⟩
    have HL : Aside0 ((l.take 65).length = 65) := ⟨hl⟩
    have HC := Aside0.mk hC
    clear hA hC hi hsz hl
    go_enter Try.func10, Try.ntmps10
    go_wp2
    go_ret
    exact ⟨l.take 65, c, by rw [HL.out]; rfl, HC, ⟨rfl⟩, HK, rfl⟩
  · go_enter Try.func10, Try.ntmps10
    go_wp2
    go_ret
    exact ⟨l, c, rfl, ⟨hlc⟩, ⟨(List.take_of_length_le (by omega)).symm⟩, HR, rfl⟩

/-! ### The example -/
theorem lit_C (w : World) : Kd.C (Kd.int .i64) (w.alloc (.cells #[.int .i64 0, .int .i64 1, .int .i64 0] 3)) (some ⟨w.heap.size, 0, none⟩) 3 [0, 1, 0] := by
  refine ⟨rfl, by omega, fun _ => ⟨_, rfl, fun j p hj => ?_⟩⟩
  have hj3 : j < 3 := (List.getElem?_eq_some_iff.1 hj).1
  refine ⟨[.int .i64 p], rfl, rfl, fun i u hu => ?_⟩
  have hi : i = 0 := by
    have := (List.getElem?_eq_some_iff.1 hu).1
    simpa using this
  subst hi
  have : j = 0 ∨ j = 1 ∨ j = 2 := by omega
  have ea : ((⟨w.heap.size, 0, none⟩ : Addr).add (j * (Kd.int .i64).sz + 0)) = ⟨w.heap.size, j, none⟩ := by
    rw [add_plain]
    show (⟨w.heap.size, j * 1 + 0, none⟩ : Addr) = _
    rw [Nat.mul_one, Nat.add_zero]
  rw [ea]
  simp at hu
  subst hu
  rcases this with rfl | rfl | rfl <;> (simp at hj; subst hj; simp only [World.cell?]; rw [heap_alloc_new]; rfl)
theorem ex1 : frame_Owner.f [0, 1, 0] 5 = some (0, 0) := by kernel_rfl
theorem ex2 : frame_Windows.f 80 [0, 1, 0] 0 0 4 = some (3, 0) := by kernel_rfl
theorem ex3 : frame_Gap.f 80 [0, 1, 0] 1 = some (3, 0) := by kernel_rfl
theorem ex4 : frame_Nth.f 130 [0, 1, 0] 1 2 1 = some (4, 0) := by kernel_rfl
theorem ex5 : chkTell [0, 1, 0] 2 = 0 := by decide
set_option maxHeartbeats 1000000 in
theorem alive_calls (w : World) : Calls Try.prog 15 #[] w fun e w' => e = .returned (.bool true) ∧ Below w.heap.size w w' := by
  have K0 := Aside0.mk (lit_C w)
  have B0 : Aside0 (Below w.heap.size w (w.alloc (.cells #[.int .i64 0, .int .i64 1, .int .i64 0] 3))) := ⟨below_alloc (Below.refl _ _) _⟩
  go_enter Try.func15, Try.ntmps15
  go_wp2_with (go_at_call 18; refine (frame_Owner.calls (some ⟨w.heap.size, 0, none⟩) 3 [0, 1, 0] 5 0 0 _ K0.out (by decide) ex1).mono ?_; rintro e w1 ⟨rfl, hd⟩; have K1 := Aside0.mk (Kd.C_below K0.out hd.below); have B1 := Aside0.mk (below_step B0.out hd.below); clear hd K0 B0)
  go_wp2_with (go_at_call 11; refine (frame_Windows.calls 80 (some ⟨w.heap.size, 0, none⟩) 3 [0, 1, 0] 0 0 4 3 0 _ K1.out (by decide) ex2).mono ?_; rintro e w2 ⟨rfl, hd⟩; have K2 := Aside0.mk (Kd.C_below K1.out hd); have B2 := Aside0.mk (below_step B1.out hd); clear hd K1 B1)
  go_wp2_with (go_at_call 19; refine (frame_Gap.calls 80 (some ⟨w.heap.size, 0, none⟩) 3 [0, 1, 0] 1 3 0 _ K2.out (by decide) ex3).mono ?_; rintro e w3 ⟨rfl, hd⟩; have K3 := Aside0.mk (Kd.C_below K2.out hd); have B3 := Aside0.mk (below_step B2.out hd); clear hd K2 B2)
  go_wp2_with (go_at_call 13; refine (frame_Nth.calls 130 (some ⟨w.heap.size, 0, none⟩) 3 [0, 1, 0] 1 2 1 4 0 _ K3.out (by decide) ex4).mono ?_; rintro e w4 ⟨rfl, hd⟩; have K4 := Aside0.mk (Kd.C_below K3.out hd); have B4 := Aside0.mk (below_step B3.out hd); clear hd K3 B3)
  go_wp2_with (go_at_call 22; refine (Check (some ⟨w.heap.size, 0, none⟩) 3 [0, 1, 0] 2 _ K4.out (by decide)).mono ?_; rw [ex5]; rintro e w5 ⟨rfl, hd⟩; have B5 := Aside0.mk (below_step B4.out hd); clear hd K4 B4)
  go_ret
  exact ⟨rfl, B5.out⟩
end Go.Proofs.Ytmfmliblieemiaa.QFr
