/- Decode: wire.Split, walked by hand. -/
import Derived.Test.YtoliipbmcekciaaDoorBDc
namespace Go.Proofs.YtoliipbmcekciaaDoor.QDc
open Go.RowKit Go.Proofs.YtoliipbmcekciaaDoorW.PrintWords Go.Proofs.YtoliipbmcekciaaDoorW.PrintLast Go.Proofs.YtoliipbmcekciaaDoorW.PrintMore
set_option linter.unusedVariables false
set_option linter.unusedSimpArgs false

def chunk (l : List Int) (i : Nat) : List Int := (l.drop (16 * i)).take 16
/-- The piece at a place, as the program cuts it. -/
def chV (ad : Addr) (n : Nat) (i : Nat) : Value := .slice (some (ad.add (16 * i))) (min (n - 16 * i) 16) (min (n - 16 * i) 16)
/-- The loop's head. -/
def Spl (w : World) (ad : Addr) (n : Nat) (most : Int) (m : Nat) (v : Value) (wr : World) : Prop :=
  Below w.heap.size w wr ∧ wr.ownsRow w.heap.size 38 1 v m (encs (chV ad n) (List.range m)) ∧ 16 * m ≤ n + 15 ∧ (m : Int) ≤ max most 0

set_option maxRecDepth 100000 in
set_option maxHeartbeats 2000000 in
theorem Split_walk (ad : Addr) (c n : Nat) (most : Int) (w : World) (hc : n ≤ c) (hn : n ≤ 1000) :
    Calls Tryd.prog 60 #[.slice (some ad) n c, .int .i64 most] w fun e w' => ∃ v m, e = .returned v ∧ Spl w ad n most m v w' ∧ ¬ (16 * m < n ∧ (m : Int) < most) := by
  have HN := Aside0.mk hn
  have HC := Aside0.mk hc
  clear hc hn
  have H0 : Aside0 (Spl w ad n most 0 (.slice none 0 0) w) := ⟨⟨Below.refl _ _, World.ownsRow_nil _ _ _ _, by omega, by omega⟩⟩
  go_enter Tryd.func60, Tryd.ntmps60
  go_wp2
  go_loopw [5, 6] (fun v i wr => ∃ m : Nat, i = .int .i64 ((16 * m : Nat) : Int) ∧ Aside0 (Spl w ad n most m v wr)) (fun _ i _ => n - (intOf i).toNat)
  case atStart => exact ⟨0, rfl, H0⟩
  case round =>
    obtain ⟨m, rfl, hS⟩ := hrel
    obtain ⟨A, cp, rfl, hcp, _⟩ := own_reads_of_le (d := 0) hS.out.2.1
    obtain ⟨a, ha⟩ : ∃ a, 16 * m = a := ⟨_, rfl⟩
    have HA := Aside0.mk ha
    rw [ha]
    clear ha
    by_cases h1 : (a : Int) < (n : Int)
    · by_cases h2 : (m : Int) < most
      · have H1 := Aside0.mk h1
        have H2 := Aside0.mk h2
        have d1 : decide ((a : Int) < (n : Int)) = true := decide_eq_true h1
        have d2 : decide ((m : Int) < most) = true := decide_eq_true h2
        have s1 : wrap64 ((n : Int) - (a : Int)) = (n : Int) - (a : Int) := by have := HN.out; unfold wrap64; omega
        obtain ⟨e, he⟩ : ∃ e, min n (a + 16) = e := ⟨_, rfl⟩
        have hE : wrap64 ((if (16 : Int) < (n : Int) - (a : Int) then 16 else (n : Int) - (a : Int)) + (a : Int)) = (e : Int) := by
          have := HN.out
          rw [← he]
          unfold wrap64
          split <;> omega
        have HE := Aside0.mk he
        have e1 : a < e := by omega
        have e2 : e ≤ n := by omega
        clear he
        go_upto_region 6 with fail
        rw [hE]
        clear hE s1
        have e3 : (a : Int) ≤ (e : Int) := by omega
        have e4 : e ≤ c := by have := HC.out; omega
        have e5 : (e : Int) ≤ (c : Int) := by omega
        have e6 : (0 : Int) ≤ (a : Int) := by omega
        have HP : Aside0 (wr.ownsRow w.heap.size 38 1 (.slice A m cp) (encs (chV ad n) (List.range m)).length (encs (chV ad n) (List.range m))) := ⟨by rw [encs_length, List.length_range]; exact hS.out.2.1⟩
        have hml : Aside0 (((encs (chV ad n) (List.range m)).length + 1) * 24 ≤ 140737488355328) := ⟨by rw [encs_length, List.length_range]; have := HN.out; have := HA.out; omega⟩
        have hy : Aside0 (Value.slice (some (ad.add a)) (e - a) (e - a) = chV ad n m) := ⟨by
          unfold chV
          rw [HA.out, show e - a = min (n - a) 16 by have := HE.out; omega]⟩
        go_wp2_with (first | ((with_reducible refine gate_builtin (b := .append) rfl ?_); at_builtin; refine print_append (w0 := w) w.heap.size rfl (.tmp 27) (.tmp 33) 29 38 (.slice none 0 0) 24 rfl Tryd.underlying29 info38 rfl (by decide) (.slice A m cp) (encs (chV ad n) (List.range m)) (.slice (some (ad.add a)) (e - a) (e - a)) rfl rfl rfl HP.out hS.out.1 hS.out.1.size hml.out ?_; intro v1 w2 hown hB2 hg2 hat; have HX := Aside0.mk (And.intro hB2 hown); clear hown hB2 hg2 hat))
        have hw2 : wrap64 ((a : Int) + 16) = (a : Int) + 16 := by have := HN.out; have := H1.out; clear e3 e5 e6; unfold wrap64; omega
        have hk : (a : Int) + 16 = ((16 * (m + 1) : Nat) : Int) := by have := HA.out; omega
        have hh : n - ((a : Int) + 16).toNat < n - ((a : Int)).toNat := by have := H1.out; omega
        go_roundw
        case rel =>
          refine ⟨m + 1, ?_, ⟨HX.out.1, ?_, ?_, ?_⟩⟩
          · rw [hw2, hk]
          · have := HX.out.2
            rw [hy.out, show encs (chV ad n) (List.range m) ++ [chV ad n m] = encs (chV ad n) (List.range (m + 1)) by rw [List.range_succ, encs_append]; rfl, encs_length, List.length_range] at this
            exact this
          · have := H1.out; have := HA.out; omega
          · have := H2.out; omega
        case measure =>
          clear hk
          simp only [hw2]
          exact hh
      · have H2 := Aside0.mk h2
        have d1 : decide ((a : Int) < (n : Int)) = true := decide_eq_true h1
        have d2 : decide ((m : Int) < most) = false := decide_eq_false h2
        go_wp2
        go_ret
        exact ⟨_, rfl, m, hS.out, by have := H2.out; intro h; omega⟩
    · have H1 := Aside0.mk h1
      have d1 : decide ((a : Int) < (n : Int)) = false := decide_eq_false h1
      go_wp2
      go_ret
      exact ⟨_, rfl, m, hS.out, by have := H1.out; have := HA.out; intro h; omega⟩
end Go.Proofs.YtoliipbmcekciaaDoor.QDc
