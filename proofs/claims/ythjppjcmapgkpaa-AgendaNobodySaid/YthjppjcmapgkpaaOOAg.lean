/- Agenda: the document's Same, at equal rows. -/
import Derived.Test.YthjppjcmapgkpaaNNAg
namespace Go.Proofs.Ythjppjcmapgkpaa.QAg
open Go.RowKit Go.Maps Go.Proofs.YthjppjcmapgkpaaW.PrintWords Go.Proofs.YthjppjcmapgkpaaW.PrintLast Go.Proofs.YthjppjcmapgkpaaW.PrintMore
set_option linter.unusedVariables false
set_option linter.unusedSimpArgs false
theorem own_at {w : World} {base n c : Nat} {A : Option Addr} {l : List En} (h : w.ownsRow base 27 2 (.slice A n c) n (fT l)) {i : Nat} {x : En} (hx : l[i]? = some x) (hn : n = l.length) : ∃ g, A = some ⟨g, 0, none⟩ ∧ w.cell? ⟨g, i * 2, none⟩ = some (.int .i8 x.key) ∧ w.cell? ⟨g, i * 2 + 1, none⟩ = some (.int .i64 x.mark) := by
  have hlt := (List.getElem?_eq_some_iff.1 hx).1
  rcases h.2 with ⟨h1, h2⟩ | ⟨g, cap, cur, h1, h2, h3, h4, h5, h6, h7⟩
  · omega
  · injection h1 with e1 e2 e3
    have hc : ∀ j u, (fT l)[j]? = some u → w.cell? ⟨g, j, none⟩ = some u := fun j u hj => by
      rw [← h7, List.getElem?_take] at hj
      split at hj
      · simp only [World.cell?, h3]
        rw [← Array.getElem?_toList]
        exact hj
      · cases hj
    refine ⟨g, e1, hc _ _ ?_, hc _ _ ?_⟩
    · have := fT_get l i x hx 0 (by omega)
      rw [Nat.add_zero] at this
      rw [this]; rfl
    · rw [fT_get l i x hx 1 (by omega)]; rfl
set_option maxRecDepth 100000 in
set_option maxHeartbeats 2000000 in
theorem Same_eq {w : World} {b1 b2 c1 c2 : Nat} {A1 A2 : Option Addr} {l1 l2 : List En} (he : fT l1 = fT l2) (h1 : w.ownsRow b1 27 2 (.slice A1 l1.length c1) l1.length (fT l1)) (h2 : w.ownsRow b2 27 2 (.slice A2 l1.length c2) l1.length (fT l2)) (hn : l1.length ≤ 100000) : Calls Try.prog 24 #[.slice A1 l1.length c1, .slice A2 l1.length c2] w fun r w' => r = .returned (.bool true) ∧ Below w.heap.size w w' := by
  rw [← he] at h2
  clear he
  have HR := Aside0.mk (And.intro h1 (And.intro h2 hn))
  clear h1 h2 hn
  generalize l1 = l at HR ⊢
  have HB0 : Aside0 (Below w.heap.size w w) := ⟨Below.refl _ _⟩
  go_enter Try.func24, Try.ntmps24
  go_wp2
  go_loopw [5] (fun i wr => ∃ i0 : Nat, i0 ≤ l.length ∧ i = .int .i64 (i0 : Int) ∧ Aside0 (Below w.heap.size w wr)) (fun i _ => l.length - (intOf i).toNat)
  case atStart => exact ⟨0, Nat.zero_le _, rfl, HB0⟩
  case round =>
    clear HB0
    obtain ⟨i, hil, rfl, HS⟩ := hrel
    by_cases hlt : i < l.length
    · have d1 : (0 : Int) ≤ (i : Int) := Int.natCast_nonneg i
      have d2 : (i : Int) < (l.length : Int) := Int.ofNat_lt.2 hlt
      have d3 : decide ((i : Int) < (l.length : Int)) = true := decide_eq_true d2
      have d4 : decide (i < l.length) = true := decide_eq_true hlt
      have ht : ((i : Int)).toNat = i := Int.toNat_natCast i
      have hwi : wrap64 ((i : Int) + 1) = (i : Int) + 1 := w64_nat (Nat.lt_of_lt_of_le hlt (Nat.le_trans HR.out.2.2 (by decide)))
      have HHi : Aside0 (l.length - ((i : Int) + 1).toNat < l.length - ((i : Int)).toNat) := ⟨meas_nat hlt⟩
      have HL : Aside0 (i + 1 ≤ l.length) := ⟨hlt⟩
      have hx : l[i]? = some l[i] := List.getElem?_eq_getElem hlt
      obtain ⟨g1, rfl, x0, x1⟩ := own_at HR.out.1 hx rfl
      obtain ⟨g2, rfl, y0, y1⟩ := own_at HR.out.2.1 hx rfl
      generalize l[i] = x at hx x0 x1 y0 y1
      replace x0 := pw_cell_below HS.out x0
      replace x1 := pw_cell_below HS.out x1
      replace y0 := pw_cell_below HS.out y0
      replace y1 := pw_cell_below HS.out y1
      clear hx hlt
      go_upto_region 6 with fail
      go_quiet (fail)
      have HS2 : Aside0 (Below w.heap.size w (wr.drewN nq)) := ⟨pw_below_drewN HS.out nq⟩
      go_wp2
      go_roundw
      case rel => exact ⟨i + 1, HL.out, (by first | rfl | (rw [hwi]; rfl)), HS2⟩
      case measure => first | exact HHi.out | (simp only [hwi]; exact HHi.out)
    · have d3 : decide ((i : Int) < (l.length : Int)) = false := decide_eq_false (by omega)
      have d4 : decide (i < l.length) = false := decide_eq_false hlt
      clear hlt
      go_wp2
      go_ret
      exact ⟨rfl, HS.out⟩
theorem fT_strip : ∀ {a b : List En}, a.map strip = b.map strip → fT a = fT b
  | [], [], _ => rfl
  | [], _ :: _, h => by simp at h
  | _ :: _, [], h => by simp at h
  | x :: a, y :: b, h => by
    simp only [List.map_cons, List.cons.injEq] at h
    have h1 := h.1
    unfold strip at h1
    injection h1 with h1 h2
    injection h2 with h2 h3
    show [Value.int .i8 x.key, .int .i64 x.mark] ++ fT a = [Value.int .i8 y.key, .int .i64 y.mark] ++ fT b
    rw [h1, h2, fT_strip h.2]
/-! ### What is first hangs on what is told alone -/
theorem better_strip {a b : Option En} {x y : En} (h : a.map strip = b.map strip) (hx : strip x = strip y) : (better a x).map strip = (better b y).map strip := by
  have hk : x.key = y.key := by unfold strip at hx; injection hx
  cases a with
  | none =>
    cases b with
    | none => simp only [better, Option.map_some, hx]
    | some z => cases h
  | some z =>
    cases b with
    | none => cases h
    | some u =>
      simp only [Option.map_some, Option.some.injEq] at h
      have hzk : z.key = u.key := by unfold strip at h; injection h
      show Option.map strip (if x.key < z.key then some x else some z) = Option.map strip (if y.key < u.key then some y else some u)
      by_cases hc : x.key < z.key
      · rw [if_pos hc, if_pos (by rw [← hk, ← hzk]; exact hc), Option.map_some, Option.map_some, hx]
      · rw [if_neg hc, if_neg (by rw [← hk, ← hzk]; exact hc), Option.map_some, Option.map_some, h]
theorem foldl_strip : ∀ {M N : List En} {a b : Option En}, M.map strip = N.map strip → a.map strip = b.map strip → (M.foldl better a).map strip = (N.foldl better b).map strip
  | [], [], _, _, _, h => h
  | [], _ :: _, _, _, h, _ => by simp at h
  | _ :: _, [], _, _, h, _ => by simp at h
  | x :: M, y :: N, a, b, h, hab => by
    simp only [List.map_cons, List.cons.injEq] at h
    rw [List.foldl_cons, List.foldl_cons]
    exact foldl_strip h.2 (better_strip hab h.1)
theorem best_strip {M N : List En} (h : M.map strip = N.map strip) : (best M).map strip = (best N).map strip := foldl_strip h rfl
theorem rem_strip : ∀ {M N : List En}, M.map strip = N.map strip → ∀ k, (rem M k).map strip = (rem N k).map strip
  | [], [], _, _ => rfl
  | [], _ :: _, h, _ => by simp at h
  | _ :: _, [], h, _ => by simp at h
  | x :: M, y :: N, h, k => by
    simp only [List.map_cons, List.cons.injEq] at h
    have hid : x.id = y.id := by have := h.1; unfold strip at this; injection this with _ this; injection this
    have ih := rem_strip h.2 k
    unfold rem at ih ⊢
    by_cases hc : x.id = k
    · rw [List.filter_cons_of_neg (by simp [hc]), List.filter_cons_of_neg (by simp [← hid, hc])]
      exact ih
    · rw [List.filter_cons_of_pos (by simp [hc]), List.filter_cons_of_pos (by simp [← hid, hc]), List.map_cons, List.map_cons, h.1, ih]
theorem seqN_strip : ∀ (k : Nat) {M N : List En}, M.map strip = N.map strip → (seqN k M).map strip = (seqN k N).map strip ∧ (leftN k M).map strip = (leftN k N).map strip
  | 0, M, N, h => ⟨rfl, h⟩
  | k + 1, M, N, h => by
    have hb := best_strip h
    cases hm : best M with
    | none =>
      cases hn : best N with
      | none => simp only [seqN, leftN, hm, hn]; exact ⟨trivial, h⟩
      | some y => rw [hm, hn] at hb; cases hb
    | some x =>
      cases hn : best N with
      | none => rw [hm, hn] at hb; cases hb
      | some y =>
        rw [hm, hn] at hb
        simp only [Option.map_some, Option.some.injEq] at hb
        have hid : x.id = y.id := by have := hb; unfold strip at this; injection this with _ this; injection this
        have ih := seqN_strip k (rem_strip h x.id)
        simp only [seqN, leftN, hm, hn]
        rw [← hid]
        refine ⟨?_, ih.2⟩
        rw [List.map_cons, List.map_cons, hb, ih.1]
end Go.Proofs.Ythjppjcmapgkpaa.QAg
