/- Decode: wire.Split, walked by hand. -/
import Derived.Test.YtoliipbmcekciaaDoorBDc
namespace Go.Proofs.YtoliipbmcekciaaDoor.QDc
open Go.RowKit Go.Proofs.YtoliipbmcekciaaDoorW.PrintWords Go.Proofs.YtoliipbmcekciaaDoorW.PrintLast Go.Proofs.YtoliipbmcekciaaDoorW.PrintMore
set_option linter.unusedVariables false
set_option linter.unusedSimpArgs false

def chunk (l : List Int) (i : Nat) : List Int := (l.drop (16 * i)).take 16
/-- The piece at a place, as the program cuts it. -/
def chV (ad : Addr) (n : Nat) (i : Nat) : Value := .slice (some (ad.add (16 * i))) (min (n - 16 * i) 16) (min (n - 16 * i) 16)
/-- The loop's head. -/
def Spl (w : World) (ad : Addr) (n : Nat) (most : Int) (m : Nat) (v : Value) (wr : World) : Prop :=
  Below w.heap.size w wr ∧ wr.ownsRow w.heap.size 38 1 v m (encs (chV ad n) (List.range m)) ∧ 16 * m ≤ n + 15 ∧ (m : Int) ≤ max most 0

set_option maxRecDepth 100000 in
set_option maxHeartbeats 2000000 in
theorem Split_walk (ad : Addr) (c n : Nat) (most : Int) (w : World) (hc : n ≤ c) (hn : n ≤ 1000) :
    Calls Tryd.prog 60 #[.slice (some ad) n c, .int .i64 most] w fun e w' => ∃ v m, e = .returned v ∧ Spl w ad n most m v w' ∧ ¬ (16 * m < n ∧ (m : Int) < most) := by
  have HN := Aside0.mk hn
  have HC := Aside0.mk hc
  clear hc hn
  have H0 : Aside0 (Spl w ad n most 0 (.slice none 0 0) w) := ⟨⟨Below.refl _ _, World.ownsRow_nil _ _ _ _, by omega, by omega⟩⟩
  go_enter Tryd.func60, Tryd.ntmps60
  go_wp2
  go_loopw [5, 6] (fun v i wr => ∃ m : Nat, i = .int .i64 ((16 * m : Nat) : Int) ∧ Aside0 (Spl w ad n most m v wr)) (fun _ i _ => n - (intOf i).toNat)
  case atStart => exact ⟨0, rfl, H0⟩
  case round =>
    obtain ⟨m, rfl, hS⟩ := hrel
    obtain ⟨A, cp, rfl, hcp, _⟩ := own_reads_of_le (d := 0) hS.out.2.1
    obtain ⟨a, ha⟩ : ∃ a, 16 * m = a := ⟨_, rfl⟩
    have HA := Aside0.mk ha
    rw [ha]
    clear ha
    by_cases h1 : (a : Int) < (n : Int)
    · by_cases h2 : (m : Int) < most
      · have H1 := Aside0.mk h1
        have H2 := Aside0.mk h2
        have d1 : decide ((a : Int) < (n : Int)) = true := decide_eq_true h1
        have d2 : decide ((m : Int) < most) = true := decide_eq_true h2
        have s1 : wrap64 ((n : Int) - (a : Int)) = (n : Int) - (a : Int) := by have := HN.out; unfold wrap64; omega
        obtain ⟨e, he⟩ : ∃ e, min n (a + 16) = e := ⟨_, rfl⟩
        have hE : wrap64 ((if (16 : Int) < (n : Int) - (a : Int) then 16 else (n : Int) - (a : Int)) + (a : Int)) = (e : Int) := by
          have := HN.out
          rw [← he]
          unfold wrap64
          split <;> omega
        have HE := Aside0.mk he
        have e1 : a < e := by omega
        have e2 : e ≤ n := by omega
        clear he
        go_upto_region 6 with fail
        rw [hE]
        clear hE s1
        have e3 : (a : Int) ≤ (e : Int) := by omega
        have e4 : e ≤ c := by have := HC.out; omega
        have e5 : (e : Int) ≤ (c : Int) := by omega
        have e6 : (0 : Int) ≤ (a : Int) := by omega
        have HP : Aside0 (wr.ownsRow w.heap.size 38 1 (.slice A m cp) (encs (chV ad n) (List.range m)).length (encs (chV ad n) (List.range m))) := ⟨by rw [encs_length, List.length_range]; exact hS.out.2.1⟩
        have hml : Aside0 (((encs (chV ad n) (List.range m)).length + 1) * 24 ≤ 140737488355328) := ⟨by rw [encs_length, List.length_range]; have := HN.out; have := HA.out; omega⟩
        have hy : Aside0 (Value.slice (some (ad.add a)) (e - a) (e - a) = chV ad n m) := ⟨by
          unfold chV
          rw [HA.out, show e - a = min (n - a) 16 by have := HE.out; omega]⟩
        go_wp2_with (first | ((with_reducible refine gate_builtin (b := .append) rfl ?_); at_builtin; refine print_append (w0 := w) w.heap.size rfl (.tmp 27) (.tmp 33) 29 38 (.slice none 0 0) 24 rfl Tryd.underlying29 info38 rfl (by decide) (.slice A m cp) (encs (chV ad n) (List.range m)) (.slice (some (ad.add a)) (e - a) (e - a)) rfl rfl rfl HP.out hS.out.1 hS.out.1.size hml.out ?_; intro v1 w2 hown hB2 hg2 hat; have HX := Aside0.mk (And.intro hB2 hown); clear hown hB2 hg2 hat))
        have hw2 : wrap64 ((a : Int) + 16) = (a : Int) + 16 := by have := HN.out; have := H1.out; clear e3 e5 e6; unfold wrap64; omega
        have hk : (a : Int) + 16 = ((16 * (m + 1) : Nat) : Int) := by have := HA.out; omega
        have hh : n - ((a : Int) + 16).toNat < n - ((a : Int)).toNat := by have := H1.out; omega
        go_roundw
        case rel =>
          refine ⟨m + 1, ?_, ⟨HX.out.1, ?_, ?_, ?_⟩⟩
          · rw [hw2, hk]
          · have := HX.out.2
            rw [hy.out, show encs (chV ad n) (List.range m) ++ [chV ad n m] = encs (chV ad n) (List.range (m + 1)) by rw [List.range_succ, encs_append]; rfl, encs_length, List.length_range] at this
            exact this
          · have := H1.out; have := HA.out; omega
          · have := H2.out; omega
        case measure =>
          clear hk
          simp only [hw2]
          exact hh
      · have H2 := Aside0.mk h2
        have d1 : decide ((a : Int) < (n : Int)) = true := decide_eq_true h1
        have d2 : decide ((m : Int) < most) = false := decide_eq_false h2
        go_wp2
        go_ret
        exact ⟨_, rfl, m, hS.out, by have := H2.out; intro h; omega⟩
    · have H1 := Aside0.mk h1
      have d1 : decide ((a : Int) < (n : Int)) = false := decide_eq_false h1
      go_wp2
      go_ret
      exact ⟨_, rfl, m, hS.out, by have := H1.out; have := HA.out; intro h; omega⟩
end Go.Proofs.YtoliipbmcekciaaDoor.QDc
namespace Go.Proofs.YtoliipbmcekciaaDoor.QDc
open Go.RowKit Go.Proofs.YtoliipbmcekciaaDoorW.PrintWords Go.Proofs.YtoliipbmcekciaaDoorW.PrintLast Go.Proofs.YtoliipbmcekciaaDoorW.PrintMore
set_option linter.unusedVariables false
set_option linter.unusedSimpArgs false
/-- A piece of a row of numbers. -/
theorem C_sub {w : World} {k : IntKind} {ad : Addr} {n : Nat} {l : List Int} (h : Kd.C (Kd.int k) w (some ad) n l) (i m : Nat) (hm : i + m ≤ n) : Kd.C (Kd.int k) w (some (ad.add i)) m ((l.drop i).take m) := by
  obtain ⟨h1, h2, h3⟩ := h
  refine ⟨by rw [List.length_take, List.length_drop]; omega, by omega, fun hpos => ?_⟩
  obtain ⟨ad', he, hc⟩ := h3 (by omega)
  injection he with he
  subst he
  refine ⟨ad.add i, rfl, fun j p hj => ?_⟩
  have hjm : j < m := by
    have := (List.getElem?_eq_some_iff.1 hj).1
    rw [List.length_take, List.length_drop] at this
    omega
  have hl : l[i + j]? = some p := by
    rw [List.getElem?_take, if_pos hjm, List.getElem?_drop] at hj
    exact hj
  obtain ⟨c, h4, h5, h6⟩ := hc (i + j) p hl
  refine ⟨c, h4, h5, fun q u hu => ?_⟩
  rw [add_add']
  have := h6 q u hu
  rw [show (i + j) * (Kd.int k).sz + q = i + (j * (Kd.int k).sz + q) by show (i + j) * 1 + q = i + (j * 1 + q); omega] at this
  exact this
/-- What Split gives back, read. -/
theorem Split_reads {w w' : World} {ad : Addr} {n : Nat} {l : List Int} {most : Int} {m : Nat} {v : Value} (hr : Kd.C (Kd.int .u8) w (some ad) n l) (hS : Spl w ad n most m v w') :
    ∃ A c, v = .slice A m c ∧ m ≤ c ∧ Kd.C (Kd.slice 5 (Kd.int .u8)) w' A m ((List.range m).map (chunk l)) := by
  obtain ⟨hb, hown, h16, hm⟩ := hS
  obtain ⟨A, c, rfl, hc, hrd⟩ := own_reads_of_le (d := 0) hown
  refine ⟨A, c, rfl, hc, by simp, hrd.2.1, fun hpos => ?_⟩
  obtain ⟨a0, e0, hcell⟩ := hrd.2.2 hpos
  refine ⟨a0, e0, fun j p hj => ?_⟩
  have hjm : j < m := by
    have := (List.getElem?_eq_some_iff.1 hj).1
    simpa using this
  have hp : p = chunk l j := by
    rw [List.getElem?_map, List.getElem?_range hjm] at hj
    exact (Option.some.inj hj).symm
  subst hp
  have hl : l.length = n := hr.1
  have hlen : (chunk l j).length = min (n - 16 * j) 16 := by
    unfold chunk; rw [List.length_take, List.length_drop]; omega
  refine ⟨[chV ad n j], rfl, ⟨some (ad.add (16 * j)), min (n - 16 * j) 16, by unfold chV; rw [hlen], by omega, ?_⟩, fun q u hu => ?_⟩
  · rw [hlen]
    have := C_sub (Kd.C_below hr hb) (16 * j) (min (n - 16 * j) 16) (by omega)
    have e : (l.drop (16 * j)).take (min (n - 16 * j) 16) = chunk l j := by
      unfold chunk
      rw [← List.take_take]
      exact List.take_of_length_le (by rw [List.length_take, List.length_drop]; omega)
    rw [e] at this
    exact this
  · have h2 := hcell j hjm
    have e : (List.range m).getD j 0 = j := by rw [List.getD_eq_getElem?_getD, List.getElem?_range hjm]; rfl
    rw [e] at h2
    match q, hu with
    | 0, hu =>
      simp at hu
      subst hu
      show w'.cell? (a0.add (j * 1 + 0)) = _
      rw [Nat.mul_one, Nat.add_zero]
      exact h2
    | q + 1, hu => simp at hu
end Go.Proofs.YtoliipbmcekciaaDoor.QDc
namespace Go.Proofs.YtoliipbmcekciaaDoor.QDc
open Go.RowKit Go.Proofs.YtoliipbmcekciaaDoorW.PrintWords Go.Proofs.YtoliipbmcekciaaDoorW.PrintLast Go.Proofs.YtoliipbmcekciaaDoorW.PrintMore
set_option linter.unusedVariables false
set_option linter.unusedSimpArgs false

/-- The pieces of bytes, at most so many. -/
def pcs (l : List Int) (most : Int) : List (List Int) := (List.range (min ((l.length + 15) / 16) most.toNat)).map (chunk l)
set_option maxRecDepth 100000 in
set_option maxHeartbeats 1000000 in
theorem Split_zero (A : Option Addr) (c : Nat) (most : Int) (w : World) : Calls Tryd.prog 60 #[.slice A 0 c, .int .i64 most] w fun e w' => e = .returned (.slice none 0 0) ∧ Below w.heap.size w w' := by
  go_enter Tryd.func60, Tryd.ntmps60
  go_wp2
  go_loopw [5, 6] (fun v i wr => v = .slice none 0 0 ∧ i = .int .i64 0 ∧ wr = w) (fun _ _ _ => 0)
  case atStart => exact ⟨rfl, rfl, rfl⟩
  case round =>
    obtain ⟨rfl, rfl, rfl⟩ := hrel
    go_wp2
    go_ret
    exact ⟨rfl, Below.refl _ _⟩
theorem Split_calls (A : Option Addr) (c : Nat) (l : List Int) (most : Int) (w : World) (hr : Kd.C (Kd.int .u8) w A l.length l) (hc : l.length ≤ c) (hn : l.length ≤ 1000) :
    Calls Tryd.prog 60 #[.slice A l.length c, .int .i64 most] w fun e w' => ∃ A' c', e = .returned (.slice A' (pcs l most).length c') ∧ (pcs l most).length ≤ c' ∧ Kd.C (Kd.slice 5 (Kd.int .u8)) w' A' (pcs l most).length (pcs l most) ∧ Below w.heap.size w w' := by
  by_cases h0 : l.length = 0
  · rw [h0]
    have e : pcs l most = [] := by unfold pcs; rw [h0, show min ((0 + 15) / 16) most.toNat = 0 by omega]; rfl
    rw [e]
    refine (Split_zero A c most w).mono ?_
    rintro e w' ⟨rfl, hb⟩
    exact ⟨none, 0, rfl, Nat.le_refl _, ⟨rfl, by simp, fun h => absurd h (by simp)⟩, hb⟩
  · obtain ⟨ad, rfl, _⟩ := Kd.at_int hr 0 (by omega) (by omega)
    refine (Split_walk ad c l.length most w hc hn).mono ?_
    rintro e w' ⟨v, m, rfl, hS, hx⟩
    have hm : m = min ((l.length + 15) / 16) most.toNat := by
      obtain ⟨_, _, h3, h4⟩ := hS
      omega
    obtain ⟨A', c', rfl, hc', hC⟩ := Split_reads hr hS
    have hl : (pcs l most).length = m := by unfold pcs; rw [List.length_map, List.length_range, hm]
    have hp : (List.range m).map (chunk l) = pcs l most := by unfold pcs; rw [hm]
    rw [hp] at hC
    rw [hl]
    exact ⟨A', c', rfl, hc', hC, hS.1⟩
end Go.Proofs.YtoliipbmcekciaaDoor.QDc
