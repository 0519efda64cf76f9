/- OrderStamps: the program's Sorted: its two helpers over rows of one's own. -/
import Derived.Test.YtgklphcnkplkoaaEOr
namespace Go.Proofs.Ytgklphcnkplkoaa.QSt
open Go.RowKit Go.Proofs.YtgklphcnkplkoaaW.PrintWords Go.Proofs.YtgklphcnkplkoaaW.PrintLast Go.Proofs.YtgklphcnkplkoaaW.PrintMore
open Go.Proofs.Ytgklphcnkplkoaa.SK (St enc flat flat_len flat_get)
set_option linter.unusedVariables false
set_option linter.unusedSimpArgs false
theorem reps_flat {w : World} {base : Nat} {ok : Nat → Prop} {L : List St} {cs : List Value} (h : Reps (kS.M w base ok) kS.sz L cs) : cs = flat L := by
  obtain ⟨hl, hr⟩ := h
  replace hl : cs.length = L.length * 2 := hl
  apply List.ext_getElem?
  intro t
  by_cases ht : t < L.length * 2
  · rw [flat_get (0, 0) L t ht]
    have hj : t / 2 < L.length := by omega
    have h1 := hr (t / 2) (L[t / 2]) (List.getElem?_eq_getElem hj)
    have h2 := kS_open (kS.K_of_M h1)
    replace h2 : (cs.drop (t / 2 * 2)).take 2 = [.int .i64 (L[t / 2]).1, .int .i64 (L[t / 2]).2] := h2
    have e : ((cs.drop (t / 2 * 2)).take 2)[t % 2]? = cs[t]? := by
      rw [List.getElem?_take, if_pos (by omega), List.getElem?_drop]
      congr 1
      omega
    rw [← e, h2, List.getD_eq_getElem?_getD, List.getElem?_eq_getElem hj]
    rcases (show t % 2 = 0 ∨ t % 2 = 1 by omega) with e2 | e2 <;> rw [e2] <;> rfl
  · rw [List.getElem?_eq_none (by omega), List.getElem?_eq_none (by rw [flat_len]; omega)]
theorem flat_reps (w : World) (base : Nat) (ok : Nat → Prop) (L : List St) : Reps (kS.M w base ok) kS.sz L (flat L) := by
  refine ⟨flat_len L, fun j p hp => ?_⟩
  have hj : j < L.length := (List.getElem?_eq_some_iff.1 hp).1
  have e : ((flat L).drop (j * kS.sz)).take kS.sz = [.int .i64 p.1, .int .i64 p.2] := by
    show ((flat L).drop (j * 2)).take 2 = _
    apply List.ext_getElem?
    intro q
    rw [List.getElem?_take, List.getElem?_drop]
    by_cases hq : q < 2
    · rw [if_pos hq, flat_get (0, 0) L (j * 2 + q) (by omega), show (j * 2 + q) / 2 = j by omega, show (j * 2 + q) % 2 = q by omega, List.getD_eq_getElem?_getD, hp]
      rcases (show q = 0 ∨ q = 1 by omega) with rfl | rfl <;> rfl
    · rw [if_neg hq, List.getElem?_eq_none (by simp; omega)]
  rw [e]
  exact kS_mkM _ _ _ _
theorem R_open {w : World} {base : Nat} {ok : Nat → Prop} {v : Value} {L : List St} (h : Kd.R kS 58 w base ok v L) : (v = .slice none 0 0 ∧ L = []) ∨ ∃ g cap cur, v = .slice (some ⟨g, 0, none⟩) L.length cap ∧ base ≤ g ∧ w.heap[g]? = some (.cells cur 58 (0, 0)) ∧ L.length ≤ cap ∧ cap ≤ maxLen ∧ cur.size = cap * 2 ∧ cur.toList.take (L.length * 2) = flat L := by
  obtain ⟨_, inner, ho, hr⟩ := h
  have e := reps_flat hr
  subst e
  rcases ho.2 with ⟨e0, e1⟩ | ⟨g', cap', cur, e0, hb, hg, hn, hm, hs, ht⟩
  · refine .inl ⟨e0, ?_⟩
    have := flat_len L
    cases L with
    | nil => rfl
    | cons a l => simp at e1
  · exact .inr ⟨g', cap', cur, e0, hb, hg, hn, hm, hs, ht⟩
theorem R_close {w : World} {base g cap : Nat} {cur : Array Value} {L : List St} (hb : base ≤ g) (hg : w.heap[g]? = some (.cells cur 58 (0, 0))) (hn : L.length ≤ cap) (hm : cap ≤ maxLen) (hs : cur.size = cap * 2) (ht : cur.toList.take (L.length * 2) = flat L) : Kd.R kS 58 w base (fun _ => True) (.slice (some ⟨g, 0, none⟩) L.length cap) L :=
  ⟨fun _ _ => trivial, flat L, ⟨flat_len L, .inr ⟨g, cap, cur, rfl, hb, hg, hn, hm, hs, ht⟩⟩, flat_reps _ _ _ _⟩
theorem C_row {w : World} {g : Nat} {L : List St} (h : Row g L w) (h40 : L.length ≤ 40) : Kd.C kS w (some ⟨g, 0, none⟩) L.length L := by
  refine ⟨rfl, ?_, fun _ => ⟨_, rfl, fun j p hp => ?_⟩⟩
  · have : (40 : Nat) ≤ maxLen := by decide
    omega
  · refine ⟨[.int .i64 p.1, .int .i64 p.2], rfl, ⟨[.int .i64 p.1], [.int .i64 p.2], rfl, rfl, rfl⟩, fun q u hq => ?_⟩
    have hj : j < L.length := (List.getElem?_eq_some_iff.1 hp).1
    have := h.cell j hj q u (by rw [List.getD_eq_getElem?_getD, hp]; exact hq)
    rw [Addr.add_mid] at this ⊢
    rw [Nat.zero_add]
    rwa [show j * kS.sz + q = j * 2 + q from rfl]
theorem sortR {w : World} {base : Nat} {A : Option Addr} {n ct : Nat} {L : List St} (h : Kd.R kS 58 w base (fun _ => True) (.slice A n ct) L) (h40 : L.length ≤ 40) :
    Calls Try.prog 34 #[.slice A n ct, .func (.func 33) #[] #[]] w fun e w' => e = .returned (.tuple #[]) ∧ Kd.R kS 58 w' base (fun _ => True) (.slice A n ct) (srt L) ∧ Below base w w' := by
  rcases R_open h with ⟨e, rfl⟩ | ⟨g, cap, cur, e, hb, hg, hn, hm, hs, ht⟩
  · injection e with e1 e2 e3
    subst e1; subst e2; subst e3
    have hcon := AnyF.slices_SortFunc_none (P := Try.prog) { Try.sortSt with } none 0 (.func (.func 33) #[] #[]) w
    change Calls Try.prog 34 _ _ _ at hcon
    refine hcon.mono ?_
    rintro e w' ⟨rfl, rfl⟩
    exact ⟨rfl, by rw [show srt [] = [] by unfold srt; simp]; exact h, Below.refl _ _⟩
  · injection e with e1 e2 e3
    subst e1; subst e2; subst e3
    refine (sort_calls g ct L w ⟨cur, hg, by omega, ht⟩ h40).mono ?_
    rintro e w' ⟨rfl, hr, hB⟩
    obtain ⟨cur', h1, h2, h3⟩ := hr cur hg
    refine ⟨rfl, ?_, hB base hb⟩
    have := R_close (cap := ct) (L := srt L) hb h1 (by rw [srt_len]; exact hn) hm (by rw [h2]; exact hs) (by rw [srt_len]; exact h3)
    rwa [srt_len] at this
theorem compR {w : World} {base : Nat} {A : Option Addr} {n ct : Nat} {L : List St} (h : Kd.R kS 58 w base (fun _ => True) (.slice A n ct) L) (h40 : L.length ≤ 40) (hbs : base ≤ w.heap.size) :
    Calls Try.prog 35 #[.slice A n ct] w fun e w' => ∃ B cp, e = .returned (.slice B (cptN (0, 0) L L.length).length cp) ∧ (cptN (0, 0) L L.length).length ≤ cp ∧ Kd.C kS w' B (cptN (0, 0) L L.length).length (cptN (0, 0) L L.length) ∧ Below base w w' := by
  obtain ⟨hn, hnc, hC⟩ := Kd.R_reads' h
  subst hn
  by_cases h2 : L.length < 2
  · have e : cptN (0, 0) L L.length = L := by
      have := cptN_take (0, 0) L L.length (Nat.le_refl _) (fun i h0 hi => absurd hi (by omega))
      rwa [List.take_length] at this
    rw [e]
    refine (Compact_few A L.length ct w h2).mono ?_
    rintro e w' ⟨rfl, hb⟩
    exact ⟨A, ct, rfl, hnc, Kd.C_below hC hb, hb.mono hbs⟩
  · rcases R_open h with ⟨e, rfl⟩ | ⟨g, cap, cur, e, hb, hg, hn, hm, hs, ht⟩
    · exact absurd (by decide) h2
    · injection e with e1 e2 e3
      subst e1; subst e3
      refine (Compact_calls g ct base L w ⟨cur, hg, by omega, ht⟩ hn h40 (by omega) hb hbs).mono ?_
      rintro e w' ⟨cp, rfl, hcp, hr, hB⟩
      exact ⟨_, cp, rfl, hcp, C_row hr (by have := cptN_le (0, 0) L L.length; omega), hB⟩
end Go.Proofs.Ytgklphcnkplkoaa.QSt
