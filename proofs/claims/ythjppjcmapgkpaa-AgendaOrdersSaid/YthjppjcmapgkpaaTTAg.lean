/- Agenda: AgendaOrders. Written by a program of this repo (tools/gen_ag19.py). -/
import Derived.Test.YthjppjcmapgkpaaRRAg
namespace Go.Proofs.Ythjppjcmapgkpaa.QAg
open Go.RowKit Go.Maps Go.Proofs.YthjppjcmapgkpaaW.PrintWords Go.Proofs.YthjppjcmapgkpaaW.PrintLast Go.Proofs.YthjppjcmapgkpaaW.PrintMore
set_option linter.unusedVariables false
set_option linter.unusedSimpArgs false
/-! ### In order -/
theorem seqN_sub : ∀ (k : Nat) (M : List En), M.Pairwise (fun x y => x.id < y.id) → ∀ x ∈ seqN k M, x ∈ M
  | 0, M, _, x, h => by simp [seqN] at h
  | k + 1, M, hp, x, h => by
    cases hb : best M with
    | none => simp [seqN, hb] at h
    | some y =>
      simp only [seqN, hb] at h
      rcases List.mem_cons.1 h with h | h
      · rw [h]; exact best_mem' hp hb
      · exact (mem_rem.1 (seqN_sub k (rem M y.id) (hp.sublist List.filter_sublist) x h)).1
theorem seqN_sorted : ∀ (k : Nat) (M : List En), M.Pairwise (fun x y => x.id < y.id) → (seqN k M).Pairwise (fun x y => ltE x y = true)
  | 0, M, _ => List.Pairwise.nil
  | k + 1, M, hp => by
    cases hb : best M with
    | none => simp only [seqN, hb]; exact List.Pairwise.nil
    | some y =>
      simp only [seqN, hb]
      have hne : M ≠ [] := fun hc => by rw [hc] at hb; cases hb
      obtain ⟨y', h1, h2, h3⟩ := best_spec hp hne
      rw [hb] at h1
      cases h1
      rw [List.pairwise_cons]
      refine ⟨fun z hz => ?_, seqN_sorted k _ (hp.sublist List.filter_sublist)⟩
      have hz2 := mem_rem.1 (seqN_sub k _ (hp.sublist List.filter_sublist) z hz)
      have h4 := h3 z hz2.1
      rw [ltE_not] at h4
      rw [ltE_iff]
      have := hz2.2
      omega
def toE (l : List S27) : List En := l.map (fun x => ⟨0, 0, x.f0, x.f1⟩)
theorem toE_len (l : List S27) : (toE l).length = l.length := by unfold toE; rw [List.length_map]
theorem src27 {W : World} {A : Option Addr} {l : List S27} (h : Kd.C k27 W A l.length l) : SrcAt W A (fT (toE l)) := by
  intro j u hj
  have hlt := (List.getElem?_eq_some_iff.1 hj).1
  rw [fT_len, toE_len] at hlt
  have hi : j / 2 < l.length := by omega
  obtain ⟨ad, c, e, _, hK, hc0⟩ := Kd.C_get h z27 ((j / 2 : Nat) : Int) (by omega) (by omega)
  rw [Int.toNat_natCast] at hK hc0
  obtain rfl := k27_open hK
  refine ⟨ad, e, ?_⟩
  have hx : (toE l)[j / 2]? = some ⟨0, 0, (l.getD (j / 2) z27).f0, (l.getD (j / 2) z27).f1⟩ := by
    unfold toE
    rw [List.getElem?_map, List.getD_eq_getElem?_getD, List.getElem?_eq_getElem hi]
    rfl
  have hg := fT_get _ _ _ hx (j % 2) (by omega)
  rw [show j / 2 * 2 + j % 2 = j by omega, hj] at hg
  have hc : W.cell? (ad.add (j / 2 * 2 + j % 2)) = some u := hc0 (j % 2) u (by
    rw [hg]
    have : j % 2 = 0 ∨ j % 2 = 1 := by omega
    rcases this with h0 | h0 <;> rw [h0] <;> rfl)
  rw [show j / 2 * 2 + j % 2 = j by omega] at hc
  exact hc
theorem fT_append (a b : List En) : fT (a ++ b) = fT a ++ fT b := by unfold fT; rw [List.flatMap_append]
theorem src_takeT {w : World} {A : Option Addr} {l : List En} (h : SrcAt w A (fT l)) (i : Nat) : SrcAt w A (fT (l.take i)) := fun j u hj => by
  refine h j u ?_
  have e : fT l = fT (l.take i) ++ fT (l.drop i) := by rw [← fT_append, List.take_append_drop]
  rw [e, List.getElem?_append_left (List.getElem?_eq_some_iff.1 hj).1]
  exact hj
/-- The first i bear their places as marks. -/
def marked (i : Nat) (l : List En) : List En := l.mapIdx (fun j x => if j < i then ⟨x.g, x.id, x.key, (j : Int)⟩ else x)
theorem marked_get (i : Nat) (l : List En) (j : Nat) : (marked i l)[j]? = l[j]?.map (fun x => if j < i then ⟨x.g, x.id, x.key, (j : Int)⟩ else x) := by unfold marked; rw [List.getElem?_mapIdx]
theorem marked_len (i : Nat) (l : List En) : (marked i l).length = l.length := by unfold marked; rw [List.length_mapIdx]
theorem marked_zero (l : List En) : marked 0 l = l := by
  refine List.ext_getElem? (fun j => ?_)
  rw [marked_get]
  cases l[j]? with
  | none => rfl
  | some x => rfl
/-- A mark is set. -/
theorem row_mark {w : World} {B c : Nat} {g o : Nat} {l : List En} {i : Nat} (h : RowQ w B 27 2 (.slice (some ⟨g, o, none⟩) l.length c) l.length (fT (marked i l))) (hi : i < l.length) : RowQ (w.setCell ⟨g, o + i * 2 + 1, none⟩ (.int .i64 (i : Int))) B 27 2 (.slice (some ⟨g, o, none⟩) l.length c) l.length (fT (marked (i + 1) l)) := by
  obtain ⟨g', o', cap, cur, hv, q1, q2, q3, q4, q5⟩ := h.lies (by omega)
  injection hv with e1 e2 e3
  injection e1 with e1
  injection e1 with e4 e5
  subst e3 e4 e5
  have hx0 : l[i]? = some l[i] := List.getElem?_eq_getElem hi
  have h0 := RowQ.part (sz := 2) (n := l.length) (by omega) q1 q2 q3 q4 q5 (i * 2 + 1) [.int .i64 (i : Int)] (by simp; omega) (fT (marked (i + 1) l)) (by rw [fT_len, marked_len]) (fun j hj => ?_) (fun j hj => ?_)
  · rw [← Nat.add_assoc] at h0
    exact h0
  · have hj0 : j = 0 := by simpa using hj
    subst hj0
    have hm : (marked (i + 1) l)[i]? = some ⟨l[i].g, l[i].id, l[i].key, (i : Int)⟩ := by rw [marked_get, hx0]; show some (if i < i + 1 then _ else _) = _; rw [if_pos (by omega)]
    rw [Nat.add_zero, fT_get _ _ _ hm 1 (by omega)]
    rfl
  · have hj2 : j < i * 2 + 1 ∨ i * 2 + 1 + 1 ≤ j := hj
    by_cases hjl : j / 2 < l.length
    · have hy : l[j / 2]? = some l[j / 2] := List.getElem?_eq_getElem hjl
      have e1 : j / 2 * 2 + j % 2 = j := by omega
      have m1 : (marked (i + 1) l)[j / 2]? = some (if j / 2 < i + 1 then ⟨l[j / 2].g, l[j / 2].id, l[j / 2].key, ((j / 2 : Nat) : Int)⟩ else l[j / 2]) := by rw [marked_get, hy]; rfl
      have m0 : (marked i l)[j / 2]? = some (if j / 2 < i then ⟨l[j / 2].g, l[j / 2].id, l[j / 2].key, ((j / 2 : Nat) : Int)⟩ else l[j / 2]) := by rw [marked_get, hy]; rfl
      rw [← e1, fT_get _ _ _ m1 _ (by omega), fT_get _ _ _ m0 _ (by omega)]
      by_cases hji : j / 2 = i
      · have hm0 : j % 2 = 0 := by omega
        rw [hm0, if_pos (by omega), if_neg (by omega)]
        rfl
      · by_cases hlt : j / 2 < i
        · rw [if_pos (by omega), if_pos hlt]
        · rw [if_neg (by omega), if_neg hlt]
    · rw [List.getElem?_eq_none (by rw [fT_len, marked_len]; omega), List.getElem?_eq_none (by rw [fT_len, marked_len]; omega)]
/-- Where an entry's mark is its place, its number is one more. -/
theorem mkM_marks : ∀ (l : List En) (i : Int) (p : Int × Int × Int), (∀ (j : Nat) (x : En), l[j]? = some x → x.mark = i + (j : Int) - 1) → p ∈ mkM i l → p.2.1 = p.2.2 - 1
  | [], i, p, _, hp => by cases hp
  | x :: l, i, p, h, hp => by
    rcases List.mem_cons.1 hp with rfl | hp
    · have := h 0 x rfl
      show x.mark = i - 1
      omega
    · refine mkM_marks l (i + 1) p (fun j y hy => ?_) hp
      have := h (j + 1) y (by simpa using hy)
      omega
theorem marks_ids {l M : List En} (h : M.map strip = mkM 1 (marked l.length l)) : ∀ x ∈ M, x.mark = x.id - 1 := fun x hx => by
  have hm : strip x ∈ mkM 1 (marked l.length l) := by rw [← h]; exact List.mem_map.2 ⟨x, hx, rfl⟩
  have := mkM_marks _ 1 _ (fun j y hy => ?_) hm
  · exact this
  · rw [marked_get] at hy
    cases hj : l[j]? with
    | none => rw [hj] at hy; cases hy
    | some z =>
      rw [hj] at hy
      have hlt := (List.getElem?_eq_some_iff.1 hj).1
      simp only [Option.map_some, if_pos hlt, Option.some.injEq] at hy
      rw [← hy]
      show (j : Int) = 1 + j - 1
      omega
/-- Two neighbours among what Order tells. -/
theorem next_two {G M : List En} {k : Nat} (hG : G = seqN k M) (hp : M.Pairwise (fun x y => x.id < y.id)) (hm : ∀ x ∈ M, x.mark = x.id - 1) {p : Nat} {y x : En} (hy : G[p]? = some y) (hx : G[p + 1]? = some x) : ¬ x.key < y.key ∧ (x.key = y.key → ¬ x.mark ≤ y.mark) := by
  subst hG
  obtain ⟨h1, e1⟩ := List.getElem?_eq_some_iff.1 hy
  obtain ⟨h2, e2⟩ := List.getElem?_eq_some_iff.1 hx
  have hlt := List.pairwise_iff_getElem.1 (seqN_sorted k M hp) p (p + 1) h1 h2 (by omega)
  rw [e1, e2, ltE_iff] at hlt
  have m1 := hm y (seqN_sub k M hp y (List.mem_of_getElem? hy))
  have m2 := hm x (seqN_sub k M hp x (List.mem_of_getElem? hx))
  refine ⟨by omega, fun hk => by omega⟩
theorem src_below {w w' : World} {A : Option Addr} {xs : List Value} (h : SrcAt w A xs) (k : Below w.heap.size w w') : SrcAt w' A xs := fun j u hj => by
  obtain ⟨ad, e, hc⟩ := h j u hj
  exact ⟨ad, e, pw_cell_below k hc⟩
theorem own_below' {w w' : World} {base n : Nat} {v : Value} {xs : List Value} (h : w.ownsRow base 27 2 v n xs) (k : Below w.heap.size w w') : w'.ownsRow base 27 2 v n xs := own_move h (fun i hi => k.block i (own_lt h hi))
theorem mkM_lenM {M l : List En} (h : M.map strip = mkM 1 l) : M.length = l.length := by have := congrArg List.length h; rw [List.length_map, mkM_len] at this; exact this
theorem seqN_le : ∀ (k : Nat) (M : List En), (seqN k M).length ≤ k
  | 0, _ => Nat.le_refl _
  | k + 1, M => by
    cases hb : best M with
    | none => simp [seqN, hb]
    | some x => simp only [seqN, hb, List.length_cons]; have := seqN_le k (rem M x.id); omega
theorem meas_p {p n : Nat} (h : p + 1 < n) : n - ((p : Int) + 1 + 1).toNat < n - ((p : Int) + 1).toNat := by omega
theorem two_facts {p n : Nat} (h : p + 1 < n) (hn : n ≤ 100000) : (0 : Int) ≤ (p : Int) ∧ (p : Int) < (n : Int) ∧ (0 : Int) ≤ (p : Int) + 1 ∧ (p : Int) + 1 < (n : Int) ∧ decide ((p : Int) + 1 < (n : Int)) = true ∧ decide (p + 1 < n) = true ∧ ((p : Int)).toNat = p ∧ ((p : Int) + 1).toNat = p + 1 ∧ wrap64 (p : Int) = (p : Int) ∧ IntKind.i64.wrap (p : Int) = (p : Int) ∧ wrap64 ((p : Int) + 1 - 1) = (p : Int) ∧ wrap64 ((p : Int) + 1 + 1) = (p : Int) + 1 + 1 := by
  refine ⟨by omega, by omega, by omega, by omega, decide_eq_true (by omega), decide_eq_true h, by omega, by omega, by unfold wrap64; omega, ?_, by unfold wrap64; omega, by unfold wrap64; omega⟩
  exact (IntKind.wrap_i64 _).trans (by omega)
theorem seq_small {M l : List En} (h : M.map strip = mkM 1 l) (hl : l.length ≤ 1000) : (seqN M.length M).length ≤ 100000 := by
  have := seqN_le M.length M
  have := mkM_lenM h
  omega
theorem Order_n {w : World} {B0 n : Nat} {A : Option Addr} {c : Nat} {l : List En} (hl : l.length = n) (hrow : RowQ w B0 27 2 (.slice A n c) n (fT l)) (hn : l.length ≤ 1000) : Calls Try.prog 23 #[fLess, .slice A n c] w fun r w' => OrdP l w r w' := by
  subst hl
  exact Order_calls l hrow hn
theorem ROrder_n {w : World} {B0 n : Nat} {A : Option Addr} {c : Nat} {l : List En} (hl : l.length = n) (hrow : RowQ w B0 27 2 (.slice A n c) n (fT l)) (hn : l.length ≤ 1000) : Calls Try.prog 25 #[.slice A n c] w fun r w' => OrdP l w r w' := by
  subst hl
  exact ROrder_calls l hrow hn
/-- What both Orders tell is alike. -/
theorem ord_two {w4 w5 : World} {l M4 M5 : List En} {b4 b5 c4 : Nat} {A4 : Option Addr} {v5 : Value} (h4 : M4.map strip = mkM 1 l) (h5 : M5.map strip = mkM 1 l) (o4 : w4.ownsRow b4 27 2 (.slice A4 (seqN M4.length M4).length c4) (seqN M4.length M4).length (fT (seqN M4.length M4))) (o5 : w5.ownsRow b5 27 2 v5 (seqN M5.length M5).length (fT (seqN M5.length M5))) (hb : Below w4.heap.size w4 w5) :
    ∃ c5 A5, v5 = .slice A5 (seqN M4.length M4).length c5 ∧ w5.ownsRow b4 27 2 (.slice A4 (seqN M4.length M4).length c4) (seqN M4.length M4).length (fT (seqN M4.length M4)) ∧ w5.ownsRow b5 27 2 (.slice A5 (seqN M4.length M4).length c5) (seqN M4.length M4).length (fT (seqN M5.length M5)) ∧ fT (seqN M4.length M4) = fT (seqN M5.length M5) := by
  have hm : M4.map strip = M5.map strip := h4.trans h5.symm
  have hl : M4.length = M5.length := by have := congrArg List.length hm; simpa using this
  have hs := (seqN_strip M4.length hm).1
  rw [← hl] at o5 ⊢
  have hsl : (seqN M4.length M4).length = (seqN M4.length M5).length := by have := congrArg List.length hs; simpa using this
  rw [← hsl] at o5
  obtain ⟨A5, c5, rfl⟩ := own_form o5
  exact ⟨c5, A5, rfl, own_below' o4 hb, o5, fT_strip hs⟩
set_option maxRecDepth 100000 in
set_option maxHeartbeats 8000000 in
theorem AgendaOrders_hand (A : Option Addr) (c : Nat) (l : List S27) (W : World) (hr : Kd.C k27 W A l.length l) (hc : l.length ≤ c) (h2 : l.length * 16 ≤ 140737488351232 ∧ ∀ x ∈ l, ThOk x) : Calls Try.prog 6 #[.slice A l.length c] W fun e w' => e = .returned (.bool true) ∧ Below W.heap.size W w' := by
  have HR := Aside0.mk hr
  clear hr h2
  obtain ⟨i0, hi0⟩ := info_parts info27
  have HI0 := Aside0.mk hi0
  clear hi0
  go_enter Try.func6, Try.ntmps6
  by_cases hbig : l.length > 60
  · have q1 : decide ((l.length : Int) > 60) = true := decide_eq_true (by omega)
    have q2 : decide (60 < l.length) = true := decide_eq_true hbig
    have q3 : (60 : Nat) ≤ c := by omega
    have q4 : (60 : Int) ≤ (c : Int) := by omega
    obtain ⟨E, hE⟩ : ∃ E, E = (toE l).take 60 := ⟨_, rfl⟩
    go_upto_region 3 with fail
    have HSRC : Aside0 (SrcAt W A (fT E)) := ⟨by rw [hE]; exact src_takeT (src27 HR.out) 60⟩
    have HEN : Aside0 (E.length = 60) := ⟨by rw [hE, List.length_take, toE_len]; omega⟩
    have HE60 : Aside0 (E.length ≤ 60) := ⟨by rw [HEN.out]; decide⟩
    obtain ⟨v2, w3, hrun, hrow, hgr⟩ := run_copy (P := Try.prog) (W.alloc (.cells #[] 27)) 36 36 27 i0 _ 2 16 Try.underlying36 HI0.out.1 HI0.out.2.1 HI0.out.2.2.1 HI0.out.2.2.2 rfl (by decide) ⟨W.heap.size, 0, none⟩ A 60 c (fT E) (by rw [fT_len, HEN.out]) (src_below HSRC.out ((Below.refl _ _).alloc (Nat.le_refl _) _)) (by unfold maxLen; decide) (by decide)
    obtain ⟨A2, c2, rfl, _⟩ := hrow.form
    have HRUN := Aside0.mk hrun
    have HW3 : Aside0 (RowQ w3 W.heap.size 27 2 (.slice A2 60 c2) 60 (fT (marked 0 E)) ∧ Below W.heap.size W w3) := ⟨by rw [marked_zero]; exact hrow.base (by rw [size_alloc1]; exact Nat.le_succ _), ((Below.refl _ _).alloc (Nat.le_refl _) _).trans ((grown_below hgr).mono (by rw [size_alloc1]; exact Nat.le_succ _))⟩
    clear hrun hrow hgr
    go_upto_region 4 with ((with_reducible refine gate_builtin (b := .append) rfl ?_); at_builtin; refine app_list _ rfl (.tmp 12) (.tmp 13) 36 rfl rfl rfl HRUN.out ?_)
    clear HRUN
    go_wp2
    go_loopw [4] (fun i wr => ∃ i0 : Nat, i0 ≤ 60 ∧ i = .int .i64 (i0 : Int) ∧ Aside0 (RowQ wr W.heap.size 27 2 (.slice A2 60 c2) 60 (fT (marked i0 E)) ∧ Below W.heap.size W wr)) (fun i _ => 60 - (intOf i).toNat)
    case atStart => exact ⟨0, Nat.zero_le _, rfl, HW3⟩
    case round =>
      clear HW3
      obtain ⟨i, hil, rfl, HS⟩ := hrel
      by_cases hlt : i < 60
      · have b1 : (0 : Int) ≤ (i : Int) := Int.natCast_nonneg i
        have b2 : (i : Int) < 60 := by omega
        have b3 : decide ((i : Int) < 60) = true := decide_eq_true b2
        have b4 : decide (i < 60) = true := decide_eq_true hlt
        have ht : ((i : Int)).toNat = i := Int.toNat_natCast i
        have hwi : wrap64 ((i : Int) + 1) = (i : Int) + 1 := w64_nat (by have := HE60.out; have := HEN.out; omega)
        have HHi : Aside0 (60 - ((i : Int) + 1).toNat < 60 - ((i : Int)).toNat) := ⟨meas_nat hlt⟩
        have HL : Aside0 (i + 1 ≤ 60) := ⟨hlt⟩
        obtain ⟨g, o, cap, cur, hv, y1, y2, y3, y4, y5⟩ := HS.out.1.lies (by omega)
        injection hv with e1 e2 e3
        subst e1 e3
        clear e2
        have HNX : Aside0 (RowQ (wr.setCell ⟨g, o + i * 2 + 1, none⟩ (.int .i64 (i : Int))) W.heap.size 27 2 (.slice (some ⟨g, o, none⟩) 60 c2) 60 (fT (marked (i + 1) E)) ∧ Below W.heap.size W (wr.setCell ⟨g, o + i * 2 + 1, none⟩ (.int .i64 (i : Int)))) := ⟨by
          have h9 := HS.out.1
          rw [← HEN.out] at h9 hlt ⊢
          exact row_mark h9 hlt, HS.out.2.setCell (p := ⟨g, o + i * 2 + 1, none⟩) y1 _⟩
        have hsz : o + i * 2 + 1 < cur.size := by omega
        have hc0 : wr.cell? ⟨g, o + i * 2 + 1, none⟩ = some cur[o + i * 2 + 1] := by simp only [World.cell?, y2]; exact Array.getElem?_eq_getElem hsz
        have hf0 : wr.frozen? ⟨g, o + i * 2 + 1, none⟩ = false := by simp [World.frozen?, y2]
        generalize cur[o + i * 2 + 1] = u0 at hc0
        clear y1 y2 y3 y4 y5 hsz hlt
        go_wp2
        go_roundw
        case rel => exact ⟨i + 1, HL.out, (by first | rfl | (rw [hwi]; rfl)), HNX⟩
        case measure => first | exact HHi.out | (simp only [hwi]; exact HHi.out)
      · have b3 : decide ((i : Int) < 60) = false := decide_eq_false (by omega)
        have b4 : decide (i < 60) = false := decide_eq_false hlt
        have HZ : Aside0 (i = 60) := ⟨by omega⟩
        obtain ⟨lm, hlm⟩ : ∃ lm, lm = marked E.length E := ⟨_, rfl⟩
        have HLM : Aside0 (lm = marked E.length E ∧ lm.length = 60 ∧ lm.length ≤ 1000) := ⟨hlm, by rw [hlm, marked_len, HEN.out], by rw [hlm, marked_len]; have := HE60.out; omega⟩
        have HROW : Aside0 (RowQ wr W.heap.size 27 2 (.slice A2 60 c2) 60 (fT lm) ∧ Below W.heap.size W wr) := ⟨by have h9 := HS.out.1; rw [HZ.out] at h9; rw [hlm, HEN.out]; exact h9, HS.out.2⟩
        clear hlt hlm
        clear HS
        go_upto_region 9 with (go_at_call 23; refine (Order_n HLM.out.2.1 HROW.out.1 HLM.out.2.2).mono ?_; rintro r w4 ⟨v4, M4, rfl, hs4, ho4, hb4⟩; obtain ⟨w4b, hw4b⟩ : ∃ w4b, w4b = wr.heap.size := ⟨_, rfl⟩; rw [← hw4b] at ho4; clear hw4b; obtain ⟨A4, c4, rfl⟩ := own_form ho4; have HO4 := Aside0.mk (And.intro hs4 (And.intro ho4 (And.intro (HROW.out.1.below hb4) (HROW.out.2.trans (hb4.mono HROW.out.2.size))))); clear hs4 ho4 hb4)
        go_upto_region 11 with (first
          | (go_at_call 25; refine (ROrder_n HLM.out.2.1 HO4.out.2.2.1 HLM.out.2.2).mono ?_; rintro r w5 ⟨v5, M5, rfl, hs5, ho5, hb5⟩; have HO5 := Aside0.mk (ord_two HO4.out.1 hs5 HO4.out.2.1 ho5 hb5); clear hs5 ho5; obtain ⟨c5, A5, hv5, h5⟩ := HO5.out; subst hv5; have H5 := Aside0.mk (And.intro h5 (HO4.out.2.2.2.trans (hb5.mono HO4.out.2.2.2.size))); clear h5 hb5)
          | (go_at_call 24; go_loud (refine (Same_n (l1 := seqN M4.length M4) rfl H5.out.1.2.2 H5.out.1.1 H5.out.1.2.1 (seq_small HO4.out.1 HLM.out.2.2)).mono ?_); rintro r w6 ⟨rfl, hl6⟩; have H6 := Aside0.mk (And.intro (own_below' H5.out.1.1 hl6) (H5.out.2.trans (hl6.mono H5.out.2.size))); clear hl6))
        have HIN : Aside0 (M4.Pairwise (fun x y => x.id < y.id) ∧ ∀ x ∈ M4, x.mark = x.id - 1) := ⟨inc_of_strip HO4.out.1, by
          have h8 := HO4.out.1
          rw [HLM.out.1] at h8
          exact marks_ids h8⟩
        have HGS := Aside0.mk (seq_small HO4.out.1 HLM.out.2.2)
        obtain ⟨G, hG⟩ : ∃ G, G = seqN M4.length M4 := ⟨_, rfl⟩
        have HG := Aside0.mk hG
        obtain ⟨gn, hgn⟩ : ∃ gn, gn = G.length := ⟨_, rfl⟩
        have HGN := Aside0.mk hgn
        replace H6 : Aside0 (w6.ownsRow w4b 27 2 (.slice A4 gn c4) gn (fT G) ∧ Below W.heap.size W w6) := ⟨by rw [hgn, hG]; exact H6.out⟩
        replace HGS : Aside0 (gn ≤ 100000) := ⟨by rw [hgn, hG]; exact HGS.out⟩
        rw [← hG, ← hgn]
        clear hG hgn
        have HQ0 := Aside0.mk H6.out.2
        obtain ⟨wo, hwo⟩ : ∃ wo, wo = w6 := ⟨_, rfl⟩
        have HOW : Aside0 (wo.ownsRow w4b 27 2 (.slice A4 gn c4) gn (fT G)) := ⟨by rw [hwo]; exact H6.out.1⟩
        rw [← hwo] at HQ0 ⊢
        clear hwo H6
        go_wp2
        have HQ1 : Aside0 (Below W.heap.size W wo ∧ Below wo.heap.size wo wo) := ⟨HQ0.out, Below.refl _ _⟩
        go_loopw [6] (fun i wr => ∃ p : Nat, p ≤ 100000 ∧ i = .int .i64 ((p : Int) + 1) ∧ Aside0 (Below W.heap.size W wr ∧ Below wo.heap.size wo wr)) (fun i _ => gn - (intOf i).toNat)
        case atStart => exact ⟨0, by omega, rfl, HQ1⟩
        case round =>
          clear HQ0 HQ1
          obtain ⟨p, hp6, rfl, HQ⟩ := hrel
          by_cases hlt : p + 1 < gn
          · obtain ⟨y, hy⟩ : ∃ y, G[p]? = some y := ⟨_, List.getElem?_eq_getElem (Nat.lt_of_lt_of_eq (Nat.lt_of_succ_lt hlt) HGN.out)⟩
            obtain ⟨x, hx⟩ : ∃ x, G[p + 1]? = some x := ⟨_, List.getElem?_eq_getElem (Nat.lt_of_lt_of_eq hlt HGN.out)⟩
            have HNT := Aside0.mk (next_two HG.out HIN.out.1 HIN.out.2 hy hx)
            obtain ⟨gT, rfl, y0, y1⟩ := own_at HOW.out hy HGN.out
            obtain ⟨g8, hg8, x0, x1⟩ := own_at HOW.out hx HGN.out
            injection hg8 with hg8
            injection hg8 with hg8 _
            subst hg8
            replace x0 := pw_cell_below HQ.out.2 x0
            replace x1 := pw_cell_below HQ.out.2 x1
            replace y0 := pw_cell_below HQ.out.2 y0
            replace y1 := pw_cell_below HQ.out.2 y1
            have HHp : Aside0 (gn - ((p : Int) + 1 + 1).toNat < gn - ((p : Int) + 1).toNat) := ⟨meas_p hlt⟩
            have HPL : Aside0 (p + 1 ≤ 100000) := ⟨Nat.le_trans (Nat.le_of_lt hlt) HGS.out⟩
            obtain ⟨b1, b2, b3, b4, b5, b6, t1, t2, w1, w2, w3', hw⟩ := two_facts hlt HGS.out
            clear hy hx hlt hp6
            go_upto_region 14 with fail
            have HC : Aside0 (decide (x.key < y.key) = false) := ⟨decide_eq_false HNT.out.1⟩
            by_cases hk : x.key = y.key
            · have e1 : (x.key == y.key) = true := by simp [hk]
              have e2 : decide (x.mark ≤ y.mark) = false := decide_eq_false (HNT.out.2 hk)
              clear hk
              refine startN (S := fun w' => Below wr.heap.size wr w') (N := [3, 8, 15, 21, 28, 34]) (by kernel_rfl) ?_
              have hHeld : (fun w' => Below wr.heap.size wr w') wr.drew := (Below.refl _ _).drew
              refine takeF (i := 0) (v := _) 39 rfl rfl (by kernel_rfl) (by kernel_rfl) (by kernel_rfl) (fun _ _ _ h => h) (Or.inl ⟨by rfl, fun w' _ => by first | (go_simp; done) | (go_simp; with_reducible rfl) | (go_simp; rfl)⟩) ?_
              try simp only [Act.put, List.setIfInBounds_toArray, List.set_cons_zero, List.set_cons_succ]
              refine takeF (i := 1) (v := _) 40 rfl rfl (by kernel_rfl) (by kernel_rfl) (by kernel_rfl) (fun _ _ _ h => h) (Or.inl ⟨by rfl, fun w' _ => by first | (go_simp; done) | (go_simp; with_reducible rfl) | (go_simp; rfl)⟩) ?_
              try simp only [Act.put, List.setIfInBounds_toArray, List.set_cons_zero, List.set_cons_succ]
              refine takeF (i := 2) (v := _) 41 rfl rfl (by kernel_rfl) (by kernel_rfl) (by kernel_rfl) (fun _ _ _ h => h) (Or.inl ⟨by rfl, fun w' _ => by first | (go_simp; done) | (go_simp; with_reducible rfl) | (go_simp; rfl)⟩) ?_
              try simp only [Act.put, List.setIfInBounds_toArray, List.set_cons_zero, List.set_cons_succ]
              refine takeN (i := 3) (v := _) 42 rfl rfl (by kernel_rfl) (by kernel_rfl) (by kernel_rfl) (fun _ _ _ h => h) (by kernel_rfl) (Or.inl ⟨by rfl, fun w' hW => by have hq0 := pw_cell_below hW x0; have hq1 := pw_cell_below hW x1; have hq2 := pw_cell_below hW y0; have hq3 := pw_cell_below hW y1; first | (go_simp; done) | (go_simp; with_reducible rfl) | (go_simp; rfl)⟩) hHeld ?_
              try simp only [Act.put, List.setIfInBounds_toArray, List.set_cons_zero, List.set_cons_succ]
              refine takeF (i := 4) (v := _) 43 rfl rfl (by kernel_rfl) (by kernel_rfl) (by kernel_rfl) (fun _ _ _ h => h) (Or.inl ⟨by rfl, fun w' _ => by first | (go_simp; done) | (go_simp; with_reducible rfl) | (go_simp; rfl)⟩) ?_
              try simp only [Act.put, List.setIfInBounds_toArray, List.set_cons_zero, List.set_cons_succ]
              refine takeF (i := 5) (v := _) 44 rfl rfl (by kernel_rfl) (by kernel_rfl) (by kernel_rfl) (fun _ _ _ h => h) (Or.inl ⟨by rfl, fun w' _ => by first | (go_simp; done) | (go_simp; with_reducible rfl) | (go_simp; rfl)⟩) ?_
              try simp only [Act.put, List.setIfInBounds_toArray, List.set_cons_zero, List.set_cons_succ]
              refine takeF (i := 6) (v := _) 45 rfl rfl (by kernel_rfl) (by kernel_rfl) (by kernel_rfl) (fun _ _ _ h => h) (Or.inl ⟨by rfl, fun w' _ => by first | (go_simp; done) | (go_simp; with_reducible rfl) | (go_simp; rfl)⟩) ?_
              try simp only [Act.put, List.setIfInBounds_toArray, List.set_cons_zero, List.set_cons_succ]
              refine takeF (i := 7) (v := _) 46 rfl rfl (by kernel_rfl) (by kernel_rfl) (by kernel_rfl) (fun _ _ _ h => h) (Or.inl ⟨by rfl, fun w' _ => by first | (go_simp; done) | (go_simp; with_reducible rfl) | (go_simp; rfl)⟩) ?_
              try simp only [Act.put, List.setIfInBounds_toArray, List.set_cons_zero, List.set_cons_succ]
              refine takeN (i := 8) (v := _) 47 rfl rfl (by kernel_rfl) (by kernel_rfl) (by kernel_rfl) (fun _ _ _ h => h) (by kernel_rfl) (Or.inl ⟨by rfl, fun w' hW => by have hq0 := pw_cell_below hW x0; have hq1 := pw_cell_below hW x1; have hq2 := pw_cell_below hW y0; have hq3 := pw_cell_below hW y1; first | (go_simp; done) | (go_simp; with_reducible rfl) | (go_simp; rfl)⟩) hHeld ?_
              try simp only [Act.put, List.setIfInBounds_toArray, List.set_cons_zero, List.set_cons_succ]
              have HB1 : Aside0 (Below wr.heap.size wr wr.drew) := ⟨(Below.refl _ _).drew⟩
              clear hHeld
              generalize wr.drew = w3 at HB1 ⊢
              refine readyN (rs := [9]) (by kernel_rfl) (by simp) ?_
              refine eachN.cons rfl (fun K hK => ?_) eachN.nil
              go_simp
              go_wp2_with (go_at_call 9; refine (less_calls x.key x.mark y.key y.mark _).mono ?_; rewrite [HC.out]; rintro e w4 ⟨rfl, hl⟩; have HB2 : Aside0 (Below wr.heap.size wr w4) := ⟨HB1.out.trans (hl.mono HB1.out.size)⟩; clear hl)
              refine hK.out _ _ HB2.out (fun hHeld => ?_)
              clear hK K
              try simp only [Act.put, List.setIfInBounds_toArray, List.set_cons_zero, List.set_cons_succ]
              refine takeF (i := 10) (v := _) 49 rfl rfl (by kernel_rfl) (by kernel_rfl) (by kernel_rfl) (fun _ _ _ h => h) (Or.inl ⟨by rfl, fun w' _ => by first | (go_simp; done) | (go_simp; with_reducible rfl) | (go_simp; rfl)⟩) ?_
              try simp only [Act.put, List.setIfInBounds_toArray, List.set_cons_zero, List.set_cons_succ]
              refine takeF (i := 11) (v := _) 50 rfl rfl (by kernel_rfl) (by kernel_rfl) (by kernel_rfl) (fun _ _ _ h => h) (Or.inl ⟨by rfl, fun w' _ => by first | (go_simp; done) | (go_simp; with_reducible rfl) | (go_simp; rfl)⟩) ?_
              try simp only [Act.put, List.setIfInBounds_toArray, List.set_cons_zero, List.set_cons_succ]
              refine takeF (i := 12) (v := _) 51 rfl rfl (by kernel_rfl) (by kernel_rfl) (by kernel_rfl) (fun _ _ _ h => h) (Or.inl ⟨by rfl, fun w' _ => by first | (go_simp; done) | (go_simp; with_reducible rfl) | (go_simp; rfl)⟩) ?_
              try simp only [Act.put, List.setIfInBounds_toArray, List.set_cons_zero, List.set_cons_succ]
              refine takeF (i := 13) (v := _) 52 rfl rfl (by kernel_rfl) (by kernel_rfl) (by kernel_rfl) (fun _ _ _ h => h) (Or.inl ⟨by rfl, fun w' _ => by first | (go_simp; done) | (go_simp; with_reducible rfl) | (go_simp; rfl)⟩) ?_
              try simp only [Act.put, List.setIfInBounds_toArray, List.set_cons_zero, List.set_cons_succ]
              refine takeF (i := 14) (v := _) 53 rfl rfl (by kernel_rfl) (by kernel_rfl) (by kernel_rfl) (fun _ _ _ h => h) (Or.inl ⟨by rfl, fun w' _ => by first | (go_simp; done) | (go_simp; with_reducible rfl) | (go_simp; rfl)⟩) ?_
              try simp only [Act.put, List.setIfInBounds_toArray, List.set_cons_zero, List.set_cons_succ]
              refine takeN (i := 15) (v := _) 54 rfl rfl (by kernel_rfl) (by kernel_rfl) (by kernel_rfl) (fun _ _ _ h => h) (by kernel_rfl) (Or.inl ⟨by rfl, fun w' hW => by have hq0 := pw_cell_below hW x0; have hq1 := pw_cell_below hW x1; have hq2 := pw_cell_below hW y0; have hq3 := pw_cell_below hW y1; first | (go_simp; done) | (go_simp; with_reducible rfl) | (go_simp; rfl)⟩) hHeld ?_
              try simp only [Act.put, List.setIfInBounds_toArray, List.set_cons_zero, List.set_cons_succ]
              refine takeF (i := 16) (v := _) 55 rfl rfl (by kernel_rfl) (by kernel_rfl) (by kernel_rfl) (fun _ _ _ h => h) (Or.inl ⟨by rfl, fun w' _ => by first | (go_simp; done) | (go_simp; with_reducible rfl) | (go_simp; rfl)⟩) ?_
              try simp only [Act.put, List.setIfInBounds_toArray, List.set_cons_zero, List.set_cons_succ]
              refine takeF (i := 17) (v := _) 56 rfl rfl (by kernel_rfl) (by kernel_rfl) (by kernel_rfl) (fun _ _ _ h => h) (Or.inl ⟨by rfl, fun w' _ => by first | (go_simp; done) | (go_simp; with_reducible rfl) | (go_simp; rfl)⟩) ?_
              try simp only [Act.put, List.setIfInBounds_toArray, List.set_cons_zero, List.set_cons_succ]
              refine takeF (i := 18) (v := _) 57 rfl rfl (by kernel_rfl) (by kernel_rfl) (by kernel_rfl) (fun _ _ _ h => h) (Or.inl ⟨by rfl, fun w' _ => by first | (go_simp; done) | (go_simp; with_reducible rfl) | (go_simp; rfl)⟩) ?_
              try simp only [Act.put, List.setIfInBounds_toArray, List.set_cons_zero, List.set_cons_succ]
              refine takeF (i := 19) (v := _) 58 rfl rfl (by kernel_rfl) (by kernel_rfl) (by kernel_rfl) (fun _ _ _ h => h) (Or.inl ⟨by rfl, fun w' _ => by first | (go_simp; done) | (go_simp; with_reducible rfl) | (go_simp; rfl)⟩) ?_
              try simp only [Act.put, List.setIfInBounds_toArray, List.set_cons_zero, List.set_cons_succ]
              refine takeF (i := 20) (v := _) 59 rfl rfl (by kernel_rfl) (by kernel_rfl) (by kernel_rfl) (fun _ _ _ h => h) (Or.inl ⟨by rfl, fun w' _ => by first | (go_simp; done) | (go_simp; with_reducible rfl) | (go_simp; rfl)⟩) ?_
              try simp only [Act.put, List.setIfInBounds_toArray, List.set_cons_zero, List.set_cons_succ]
              refine takeN (i := 21) (v := _) 60 rfl rfl (by kernel_rfl) (by kernel_rfl) (by kernel_rfl) (fun _ _ _ h => h) (by kernel_rfl) (Or.inl ⟨by rfl, fun w' hW => by have hq0 := pw_cell_below hW x0; have hq1 := pw_cell_below hW x1; have hq2 := pw_cell_below hW y0; have hq3 := pw_cell_below hW y1; first | (go_simp; done) | (go_simp; with_reducible rfl) | (go_simp; rfl)⟩) hHeld ?_
              try simp only [Act.put, List.setIfInBounds_toArray, List.set_cons_zero, List.set_cons_succ]
              refine takeF (i := 22) (v := _) 61 rfl rfl (by kernel_rfl) (by kernel_rfl) (by kernel_rfl) (fun _ _ _ h => h) (Or.inl ⟨by rfl, fun w' _ => by first | (go_simp; done) | (go_simp; with_reducible rfl) | (go_simp; rfl)⟩) ?_
              try simp only [Act.put, List.setIfInBounds_toArray, List.set_cons_zero, List.set_cons_succ]
              refine takeF (i := 23) (v := _) 62 rfl rfl (by kernel_rfl) (by kernel_rfl) (by kernel_rfl) (fun _ _ _ h => h) (Or.inl ⟨by rfl, fun w' _ => by first | (go_simp; done) | (go_simp; with_reducible rfl) | (go_simp; rfl)⟩) ?_
              try simp only [Act.put, List.setIfInBounds_toArray, List.set_cons_zero, List.set_cons_succ]
              refine takeF (i := 24) (v := _) 63 rfl rfl (by kernel_rfl) (by kernel_rfl) (by kernel_rfl) (fun _ _ _ h => h) (Or.inl ⟨by rfl, fun w' _ => by first | (go_simp; done) | (go_simp; with_reducible rfl) | (go_simp; rfl)⟩) ?_
              try simp only [Act.put, List.setIfInBounds_toArray, List.set_cons_zero, List.set_cons_succ]
              refine takeF (i := 25) (v := _) 64 rfl rfl (by kernel_rfl) (by kernel_rfl) (by kernel_rfl) (fun _ _ _ h => h) (Or.inl ⟨by rfl, fun w' _ => by first | (go_simp; done) | (go_simp; with_reducible rfl) | (go_simp; rfl)⟩) ?_
              try simp only [Act.put, List.setIfInBounds_toArray, List.set_cons_zero, List.set_cons_succ]
              refine takeF (i := 26) (v := _) 65 rfl rfl (by kernel_rfl) (by kernel_rfl) (by kernel_rfl) (fun _ _ _ h => h) (Or.inl ⟨by rfl, fun w' _ => by first | (go_simp; done) | (go_simp; with_reducible rfl) | (go_simp; rfl)⟩) ?_
              try simp only [Act.put, List.setIfInBounds_toArray, List.set_cons_zero, List.set_cons_succ]
              refine takeF (i := 27) (v := _) 66 rfl rfl (by kernel_rfl) (by kernel_rfl) (by kernel_rfl) (fun _ _ _ h => h) (Or.inl ⟨by rfl, fun w' _ => by first | (go_simp; done) | (go_simp; with_reducible rfl) | (go_simp; rfl)⟩) ?_
              try simp only [Act.put, List.setIfInBounds_toArray, List.set_cons_zero, List.set_cons_succ]
              refine takeN (i := 28) (v := _) 67 rfl rfl (by kernel_rfl) (by kernel_rfl) (by kernel_rfl) (fun _ _ _ h => h) (by kernel_rfl) (Or.inl ⟨by rfl, fun w' hW => by have hq0 := pw_cell_below hW x0; have hq1 := pw_cell_below hW x1; have hq2 := pw_cell_below hW y0; have hq3 := pw_cell_below hW y1; first | (go_simp; done) | (go_simp; with_reducible rfl) | (go_simp; rfl)⟩) hHeld ?_
              try simp only [Act.put, List.setIfInBounds_toArray, List.set_cons_zero, List.set_cons_succ]
              refine takeF (i := 29) (v := _) 68 rfl rfl (by kernel_rfl) (by kernel_rfl) (by kernel_rfl) (fun _ _ _ h => h) (Or.inl ⟨by rfl, fun w' _ => by first | (go_simp; done) | (go_simp; with_reducible rfl) | (go_simp; rfl)⟩) ?_
              try simp only [Act.put, List.setIfInBounds_toArray, List.set_cons_zero, List.set_cons_succ]
              refine takeF (i := 30) (v := _) 69 rfl rfl (by kernel_rfl) (by kernel_rfl) (by kernel_rfl) (fun _ _ _ h => h) (Or.inl ⟨by rfl, fun w' _ => by first | (go_simp; done) | (go_simp; with_reducible rfl) | (go_simp; rfl)⟩) ?_
              try simp only [Act.put, List.setIfInBounds_toArray, List.set_cons_zero, List.set_cons_succ]
              refine takeF (i := 31) (v := _) 70 rfl rfl (by kernel_rfl) (by kernel_rfl) (by kernel_rfl) (fun _ _ _ h => h) (Or.inl ⟨by rfl, fun w' _ => by first | (go_simp; done) | (go_simp; with_reducible rfl) | (go_simp; rfl)⟩) ?_
              try simp only [Act.put, List.setIfInBounds_toArray, List.set_cons_zero, List.set_cons_succ]
              refine takeF (i := 32) (v := _) 71 rfl rfl (by kernel_rfl) (by kernel_rfl) (by kernel_rfl) (fun _ _ _ h => h) (Or.inl ⟨by rfl, fun w' _ => by first | (go_simp; done) | (go_simp; with_reducible rfl) | (go_simp; rfl)⟩) ?_
              try simp only [Act.put, List.setIfInBounds_toArray, List.set_cons_zero, List.set_cons_succ]
              refine takeF (i := 33) (v := _) 72 rfl rfl (by kernel_rfl) (by kernel_rfl) (by kernel_rfl) (fun _ _ _ h => h) (Or.inl ⟨by rfl, fun w' _ => by first | (go_simp; done) | (go_simp; with_reducible rfl) | (go_simp; rfl)⟩) ?_
              try simp only [Act.put, List.setIfInBounds_toArray, List.set_cons_zero, List.set_cons_succ]
              refine takeN (i := 34) (v := _) 73 rfl rfl (by kernel_rfl) (by kernel_rfl) (by kernel_rfl) (fun _ _ _ h => h) (by kernel_rfl) (Or.inl ⟨by rfl, fun w' hW => by have hq0 := pw_cell_below hW x0; have hq1 := pw_cell_below hW x1; have hq2 := pw_cell_below hW y0; have hq3 := pw_cell_below hW y1; first | (go_simp; done) | (go_simp; with_reducible rfl) | (go_simp; rfl)⟩) hHeld ?_
              try simp only [Act.put, List.setIfInBounds_toArray, List.set_cons_zero, List.set_cons_succ]
              refine takeF (i := 35) (v := _) 74 rfl rfl (by kernel_rfl) (by kernel_rfl) (by kernel_rfl) (fun _ _ _ h => h) (Or.inl ⟨by rfl, fun w' _ => by first | (go_simp; done) | (go_simp; with_reducible rfl) | (go_simp; rfl)⟩) ?_
              try simp only [Act.put, List.setIfInBounds_toArray, List.set_cons_zero, List.set_cons_succ]
              refine takeF (i := 36) (v := _) 75 rfl rfl (by kernel_rfl) (by kernel_rfl) (by kernel_rfl) (fun _ _ _ h => h) (Or.inl ⟨by rfl, fun w' _ => by first | (go_simp; done) | (go_simp; with_reducible rfl) | (go_simp; rfl)⟩) ?_
              try simp only [Act.put, List.setIfInBounds_toArray, List.set_cons_zero, List.set_cons_succ]
              refine takeF (i := 37) (v := _) 76 rfl rfl (by kernel_rfl) (by kernel_rfl) (by kernel_rfl) (fun _ _ _ h => h) (Or.inl ⟨by rfl, fun w' _ => by first | (go_simp; done) | (go_simp; with_reducible rfl) | (go_simp; rfl)⟩) ?_
              try simp only [Act.put, List.setIfInBounds_toArray, List.set_cons_zero, List.set_cons_succ]
              refine doneN (by kernel_rfl) ?_ _
              clear x0 x1 y0 y1 b1 b2 t1 t2
              go_wp2
              go_roundw
              case rel => exact ⟨p + 1, HPL.out, (by first | rfl | (rw [hw]; rfl)), ⟨HQ.out.1.trans (HB2.out.mono HQ.out.1.size), HQ.out.2.trans (HB2.out.mono HQ.out.2.size)⟩⟩
              case measure => first | exact HHp.out | (simp only [hw]; exact HHp.out)
            · have e1 : (x.key == y.key) = false := by simp [hk]
              clear hk
              refine startN (S := fun w' => Below wr.heap.size wr w') (N := [3, 8, 15, 21, 28, 34]) (by kernel_rfl) ?_
              have hHeld : (fun w' => Below wr.heap.size wr w') wr.drew := (Below.refl _ _).drew
              refine takeF (i := 0) (v := _) 39 rfl rfl (by kernel_rfl) (by kernel_rfl) (by kernel_rfl) (fun _ _ _ h => h) (Or.inl ⟨by rfl, fun w' _ => by first | (go_simp; done) | (go_simp; with_reducible rfl) | (go_simp; rfl)⟩) ?_
              try simp only [Act.put, List.setIfInBounds_toArray, List.set_cons_zero, List.set_cons_succ]
              refine takeF (i := 1) (v := _) 40 rfl rfl (by kernel_rfl) (by kernel_rfl) (by kernel_rfl) (fun _ _ _ h => h) (Or.inl ⟨by rfl, fun w' _ => by first | (go_simp; done) | (go_simp; with_reducible rfl) | (go_simp; rfl)⟩) ?_
              try simp only [Act.put, List.setIfInBounds_toArray, List.set_cons_zero, List.set_cons_succ]
              refine takeF (i := 2) (v := _) 41 rfl rfl (by kernel_rfl) (by kernel_rfl) (by kernel_rfl) (fun _ _ _ h => h) (Or.inl ⟨by rfl, fun w' _ => by first | (go_simp; done) | (go_simp; with_reducible rfl) | (go_simp; rfl)⟩) ?_
              try simp only [Act.put, List.setIfInBounds_toArray, List.set_cons_zero, List.set_cons_succ]
              refine takeN (i := 3) (v := _) 42 rfl rfl (by kernel_rfl) (by kernel_rfl) (by kernel_rfl) (fun _ _ _ h => h) (by kernel_rfl) (Or.inl ⟨by rfl, fun w' hW => by have hq0 := pw_cell_below hW x0; have hq1 := pw_cell_below hW x1; have hq2 := pw_cell_below hW y0; have hq3 := pw_cell_below hW y1; first | (go_simp; done) | (go_simp; with_reducible rfl) | (go_simp; rfl)⟩) hHeld ?_
              try simp only [Act.put, List.setIfInBounds_toArray, List.set_cons_zero, List.set_cons_succ]
              refine takeF (i := 4) (v := _) 43 rfl rfl (by kernel_rfl) (by kernel_rfl) (by kernel_rfl) (fun _ _ _ h => h) (Or.inl ⟨by rfl, fun w' _ => by first | (go_simp; done) | (go_simp; with_reducible rfl) | (go_simp; rfl)⟩) ?_
              try simp only [Act.put, List.setIfInBounds_toArray, List.set_cons_zero, List.set_cons_succ]
              refine takeF (i := 5) (v := _) 44 rfl rfl (by kernel_rfl) (by kernel_rfl) (by kernel_rfl) (fun _ _ _ h => h) (Or.inl ⟨by rfl, fun w' _ => by first | (go_simp; done) | (go_simp; with_reducible rfl) | (go_simp; rfl)⟩) ?_
              try simp only [Act.put, List.setIfInBounds_toArray, List.set_cons_zero, List.set_cons_succ]
              refine takeF (i := 6) (v := _) 45 rfl rfl (by kernel_rfl) (by kernel_rfl) (by kernel_rfl) (fun _ _ _ h => h) (Or.inl ⟨by rfl, fun w' _ => by first | (go_simp; done) | (go_simp; with_reducible rfl) | (go_simp; rfl)⟩) ?_
              try simp only [Act.put, List.setIfInBounds_toArray, List.set_cons_zero, List.set_cons_succ]
              refine takeF (i := 7) (v := _) 46 rfl rfl (by kernel_rfl) (by kernel_rfl) (by kernel_rfl) (fun _ _ _ h => h) (Or.inl ⟨by rfl, fun w' _ => by first | (go_simp; done) | (go_simp; with_reducible rfl) | (go_simp; rfl)⟩) ?_
              try simp only [Act.put, List.setIfInBounds_toArray, List.set_cons_zero, List.set_cons_succ]
              refine takeN (i := 8) (v := _) 47 rfl rfl (by kernel_rfl) (by kernel_rfl) (by kernel_rfl) (fun _ _ _ h => h) (by kernel_rfl) (Or.inl ⟨by rfl, fun w' hW => by have hq0 := pw_cell_below hW x0; have hq1 := pw_cell_below hW x1; have hq2 := pw_cell_below hW y0; have hq3 := pw_cell_below hW y1; first | (go_simp; done) | (go_simp; with_reducible rfl) | (go_simp; rfl)⟩) hHeld ?_
              try simp only [Act.put, List.setIfInBounds_toArray, List.set_cons_zero, List.set_cons_succ]
              have HB1 : Aside0 (Below wr.heap.size wr wr.drew) := ⟨(Below.refl _ _).drew⟩
              clear hHeld
              generalize wr.drew = w3 at HB1 ⊢
              refine readyN (rs := [9]) (by kernel_rfl) (by simp) ?_
              refine eachN.cons rfl (fun K hK => ?_) eachN.nil
              go_simp
              go_wp2_with (go_at_call 9; refine (less_calls x.key x.mark y.key y.mark _).mono ?_; rewrite [HC.out]; rintro e w4 ⟨rfl, hl⟩; have HB2 : Aside0 (Below wr.heap.size wr w4) := ⟨HB1.out.trans (hl.mono HB1.out.size)⟩; clear hl)
              refine hK.out _ _ HB2.out (fun hHeld => ?_)
              clear hK K
              try simp only [Act.put, List.setIfInBounds_toArray, List.set_cons_zero, List.set_cons_succ]
              refine takeF (i := 10) (v := _) 49 rfl rfl (by kernel_rfl) (by kernel_rfl) (by kernel_rfl) (fun _ _ _ h => h) (Or.inl ⟨by rfl, fun w' _ => by first | (go_simp; done) | (go_simp; with_reducible rfl) | (go_simp; rfl)⟩) ?_
              try simp only [Act.put, List.setIfInBounds_toArray, List.set_cons_zero, List.set_cons_succ]
              refine takeF (i := 11) (v := _) 50 rfl rfl (by kernel_rfl) (by kernel_rfl) (by kernel_rfl) (fun _ _ _ h => h) (Or.inl ⟨by rfl, fun w' _ => by first | (go_simp; done) | (go_simp; with_reducible rfl) | (go_simp; rfl)⟩) ?_
              try simp only [Act.put, List.setIfInBounds_toArray, List.set_cons_zero, List.set_cons_succ]
              refine takeF (i := 12) (v := _) 51 rfl rfl (by kernel_rfl) (by kernel_rfl) (by kernel_rfl) (fun _ _ _ h => h) (Or.inl ⟨by rfl, fun w' _ => by first | (go_simp; done) | (go_simp; with_reducible rfl) | (go_simp; rfl)⟩) ?_
              try simp only [Act.put, List.setIfInBounds_toArray, List.set_cons_zero, List.set_cons_succ]
              refine takeF (i := 13) (v := _) 52 rfl rfl (by kernel_rfl) (by kernel_rfl) (by kernel_rfl) (fun _ _ _ h => h) (Or.inl ⟨by rfl, fun w' _ => by first | (go_simp; done) | (go_simp; with_reducible rfl) | (go_simp; rfl)⟩) ?_
              try simp only [Act.put, List.setIfInBounds_toArray, List.set_cons_zero, List.set_cons_succ]
              refine takeF (i := 14) (v := _) 53 rfl rfl (by kernel_rfl) (by kernel_rfl) (by kernel_rfl) (fun _ _ _ h => h) (Or.inl ⟨by rfl, fun w' _ => by first | (go_simp; done) | (go_simp; with_reducible rfl) | (go_simp; rfl)⟩) ?_
              try simp only [Act.put, List.setIfInBounds_toArray, List.set_cons_zero, List.set_cons_succ]
              refine takeN (i := 15) (v := _) 54 rfl rfl (by kernel_rfl) (by kernel_rfl) (by kernel_rfl) (fun _ _ _ h => h) (by kernel_rfl) (Or.inl ⟨by rfl, fun w' hW => by have hq0 := pw_cell_below hW x0; have hq1 := pw_cell_below hW x1; have hq2 := pw_cell_below hW y0; have hq3 := pw_cell_below hW y1; first | (go_simp; done) | (go_simp; with_reducible rfl) | (go_simp; rfl)⟩) hHeld ?_
              try simp only [Act.put, List.setIfInBounds_toArray, List.set_cons_zero, List.set_cons_succ]
              refine takeF (i := 16) (v := _) 55 rfl rfl (by kernel_rfl) (by kernel_rfl) (by kernel_rfl) (fun _ _ _ h => h) (Or.inl ⟨by rfl, fun w' _ => by first | (go_simp; done) | (go_simp; with_reducible rfl) | (go_simp; rfl)⟩) ?_
              try simp only [Act.put, List.setIfInBounds_toArray, List.set_cons_zero, List.set_cons_succ]
              refine takeF (i := 17) (v := _) 56 rfl rfl (by kernel_rfl) (by kernel_rfl) (by kernel_rfl) (fun _ _ _ h => h) (Or.inl ⟨by rfl, fun w' _ => by first | (go_simp; done) | (go_simp; with_reducible rfl) | (go_simp; rfl)⟩) ?_
              try simp only [Act.put, List.setIfInBounds_toArray, List.set_cons_zero, List.set_cons_succ]
              refine takeF (i := 18) (v := _) 57 rfl rfl (by kernel_rfl) (by kernel_rfl) (by kernel_rfl) (fun _ _ _ h => h) (Or.inl ⟨by rfl, fun w' _ => by first | (go_simp; done) | (go_simp; with_reducible rfl) | (go_simp; rfl)⟩) ?_
              try simp only [Act.put, List.setIfInBounds_toArray, List.set_cons_zero, List.set_cons_succ]
              refine takeF (i := 19) (v := _) 58 rfl rfl (by kernel_rfl) (by kernel_rfl) (by kernel_rfl) (fun _ _ _ h => h) (Or.inl ⟨by rfl, fun w' _ => by first | (go_simp; done) | (go_simp; with_reducible rfl) | (go_simp; rfl)⟩) ?_
              try simp only [Act.put, List.setIfInBounds_toArray, List.set_cons_zero, List.set_cons_succ]
              refine takeF (i := 20) (v := _) 59 rfl rfl (by kernel_rfl) (by kernel_rfl) (by kernel_rfl) (fun _ _ _ h => h) (Or.inl ⟨by rfl, fun w' _ => by first | (go_simp; done) | (go_simp; with_reducible rfl) | (go_simp; rfl)⟩) ?_
              try simp only [Act.put, List.setIfInBounds_toArray, List.set_cons_zero, List.set_cons_succ]
              refine takeN (i := 21) (v := _) 60 rfl rfl (by kernel_rfl) (by kernel_rfl) (by kernel_rfl) (fun _ _ _ h => h) (by kernel_rfl) (Or.inl ⟨by rfl, fun w' hW => by have hq0 := pw_cell_below hW x0; have hq1 := pw_cell_below hW x1; have hq2 := pw_cell_below hW y0; have hq3 := pw_cell_below hW y1; first | (go_simp; done) | (go_simp; with_reducible rfl) | (go_simp; rfl)⟩) hHeld ?_
              try simp only [Act.put, List.setIfInBounds_toArray, List.set_cons_zero, List.set_cons_succ]
              refine takeF (i := 22) (v := _) 61 rfl rfl (by kernel_rfl) (by kernel_rfl) (by kernel_rfl) (fun _ _ _ h => h) (Or.inl ⟨by rfl, fun w' _ => by first | (go_simp; done) | (go_simp; with_reducible rfl) | (go_simp; rfl)⟩) ?_
              try simp only [Act.put, List.setIfInBounds_toArray, List.set_cons_zero, List.set_cons_succ]
              refine takeF (i := 23) (v := _) 62 rfl rfl (by kernel_rfl) (by kernel_rfl) (by kernel_rfl) (fun _ _ _ h => h) (Or.inl ⟨by rfl, fun w' _ => by first | (go_simp; done) | (go_simp; with_reducible rfl) | (go_simp; rfl)⟩) ?_
              try simp only [Act.put, List.setIfInBounds_toArray, List.set_cons_zero, List.set_cons_succ]
              refine takeF (i := 24) (v := undef) 63 rfl rfl (by kernel_rfl) (by kernel_rfl) (by kernel_rfl) (fun _ _ _ h => h) (Or.inr ⟨by rfl, rfl⟩) ?_
              try simp only [Act.put, List.setIfInBounds_toArray, List.set_cons_zero, List.set_cons_succ]
              refine takeF (i := 25) (v := undef) 64 rfl rfl (by kernel_rfl) (by kernel_rfl) (by kernel_rfl) (fun _ _ _ h => h) (Or.inr ⟨by rfl, rfl⟩) ?_
              try simp only [Act.put, List.setIfInBounds_toArray, List.set_cons_zero, List.set_cons_succ]
              refine takeF (i := 26) (v := undef) 65 rfl rfl (by kernel_rfl) (by kernel_rfl) (by kernel_rfl) (fun _ _ _ h => h) (Or.inr ⟨by rfl, rfl⟩) ?_
              try simp only [Act.put, List.setIfInBounds_toArray, List.set_cons_zero, List.set_cons_succ]
              refine takeF (i := 27) (v := undef) 66 rfl rfl (by kernel_rfl) (by kernel_rfl) (by kernel_rfl) (fun _ _ _ h => h) (Or.inr ⟨by rfl, rfl⟩) ?_
              try simp only [Act.put, List.setIfInBounds_toArray, List.set_cons_zero, List.set_cons_succ]
              refine takeN (i := 28) (v := undef) 67 rfl rfl (by kernel_rfl) (by kernel_rfl) (by kernel_rfl) (fun _ _ _ h => h) (by kernel_rfl) (Or.inr ⟨by rfl, rfl⟩) hHeld ?_
              try simp only [Act.put, List.setIfInBounds_toArray, List.set_cons_zero, List.set_cons_succ]
              refine takeF (i := 29) (v := undef) 68 rfl rfl (by kernel_rfl) (by kernel_rfl) (by kernel_rfl) (fun _ _ _ h => h) (Or.inr ⟨by rfl, rfl⟩) ?_
              try simp only [Act.put, List.setIfInBounds_toArray, List.set_cons_zero, List.set_cons_succ]
              refine takeF (i := 30) (v := undef) 69 rfl rfl (by kernel_rfl) (by kernel_rfl) (by kernel_rfl) (fun _ _ _ h => h) (Or.inr ⟨by rfl, rfl⟩) ?_
              try simp only [Act.put, List.setIfInBounds_toArray, List.set_cons_zero, List.set_cons_succ]
              refine takeF (i := 31) (v := undef) 70 rfl rfl (by kernel_rfl) (by kernel_rfl) (by kernel_rfl) (fun _ _ _ h => h) (Or.inr ⟨by rfl, rfl⟩) ?_
              try simp only [Act.put, List.setIfInBounds_toArray, List.set_cons_zero, List.set_cons_succ]
              refine takeF (i := 32) (v := undef) 71 rfl rfl (by kernel_rfl) (by kernel_rfl) (by kernel_rfl) (fun _ _ _ h => h) (Or.inr ⟨by rfl, rfl⟩) ?_
              try simp only [Act.put, List.setIfInBounds_toArray, List.set_cons_zero, List.set_cons_succ]
              refine takeF (i := 33) (v := undef) 72 rfl rfl (by kernel_rfl) (by kernel_rfl) (by kernel_rfl) (fun _ _ _ h => h) (Or.inr ⟨by rfl, rfl⟩) ?_
              try simp only [Act.put, List.setIfInBounds_toArray, List.set_cons_zero, List.set_cons_succ]
              refine takeN (i := 34) (v := undef) 73 rfl rfl (by kernel_rfl) (by kernel_rfl) (by kernel_rfl) (fun _ _ _ h => h) (by kernel_rfl) (Or.inr ⟨by rfl, rfl⟩) hHeld ?_
              try simp only [Act.put, List.setIfInBounds_toArray, List.set_cons_zero, List.set_cons_succ]
              refine takeF (i := 35) (v := undef) 74 rfl rfl (by kernel_rfl) (by kernel_rfl) (by kernel_rfl) (fun _ _ _ h => h) (Or.inr ⟨by rfl, rfl⟩) ?_
              try simp only [Act.put, List.setIfInBounds_toArray, List.set_cons_zero, List.set_cons_succ]
              refine takeF (i := 36) (v := _) 75 rfl rfl (by kernel_rfl) (by kernel_rfl) (by kernel_rfl) (fun _ _ _ h => h) (Or.inl ⟨by rfl, fun w' _ => by first | (go_simp; done) | (go_simp; with_reducible rfl) | (go_simp; rfl)⟩) ?_
              try simp only [Act.put, List.setIfInBounds_toArray, List.set_cons_zero, List.set_cons_succ]
              refine takeF (i := 37) (v := _) 76 rfl rfl (by kernel_rfl) (by kernel_rfl) (by kernel_rfl) (fun _ _ _ h => h) (Or.inl ⟨by rfl, fun w' _ => by first | (go_simp; done) | (go_simp; with_reducible rfl) | (go_simp; rfl)⟩) ?_
              try simp only [Act.put, List.setIfInBounds_toArray, List.set_cons_zero, List.set_cons_succ]
              refine doneN (by kernel_rfl) ?_ _
              clear x0 x1 y0 y1 b1 b2 t1 t2
              go_wp2
              go_roundw
              case rel => exact ⟨p + 1, HPL.out, (by first | rfl | (rw [hw]; rfl)), ⟨HQ.out.1.trans (HB2.out.mono HQ.out.1.size), HQ.out.2.trans (HB2.out.mono HQ.out.2.size)⟩⟩
              case measure => first | exact HHp.out | (simp only [hw]; exact HHp.out)
          · have b3 : decide ((p : Int) + 1 < (gn : Int)) = false := decide_eq_false (by omega)
            have b4 : decide (p + 1 < gn) = false := decide_eq_false hlt
            have HBE := Aside0.mk HQ.out.1
            clear hlt
            go_wp2_with (go_at_call 13; refine (alive_calls _).mono ?_; rintro e w5 ⟨rfl, hl5⟩; have HAL := Aside0.mk (HBE.out.trans (hl5.mono HBE.out.size)); clear hl5)
            go_ret
            exact ⟨rfl, HAL.out⟩
  · have q1 : decide ((l.length : Int) > 60) = false := decide_eq_false (by omega)
    have q2 : decide (60 < l.length) = false := decide_eq_false hbig
    obtain ⟨E, hE⟩ : ∃ E, E = toE l := ⟨_, rfl⟩
    go_upto_region 3 with fail
    have HSRC : Aside0 (SrcAt W A (fT E)) := ⟨by rw [hE]; exact src27 HR.out⟩
    have HEN : Aside0 (E.length = l.length) := ⟨by rw [hE]; exact toE_len l⟩
    have HE60 : Aside0 (E.length ≤ 60) := ⟨by rw [HEN.out]; omega⟩
    obtain ⟨v2, w3, hrun, hrow, hgr⟩ := run_copy (P := Try.prog) (W.alloc (.cells #[] 27)) 36 36 27 i0 _ 2 16 Try.underlying36 HI0.out.1 HI0.out.2.1 HI0.out.2.2.1 HI0.out.2.2.2 rfl (by decide) ⟨W.heap.size, 0, none⟩ A l.length c (fT E) (by rw [fT_len, HEN.out]) (src_below HSRC.out ((Below.refl _ _).alloc (Nat.le_refl _) _)) (by have := HE60.out; have := HEN.out; unfold maxLen; omega) (by have := HE60.out; have := HEN.out; omega)
    obtain ⟨A2, c2, rfl, _⟩ := hrow.form
    have HRUN := Aside0.mk hrun
    have HW3 : Aside0 (RowQ w3 W.heap.size 27 2 (.slice A2 l.length c2) l.length (fT (marked 0 E)) ∧ Below W.heap.size W w3) := ⟨by rw [marked_zero]; exact hrow.base (by rw [size_alloc1]; exact Nat.le_succ _), ((Below.refl _ _).alloc (Nat.le_refl _) _).trans ((grown_below hgr).mono (by rw [size_alloc1]; exact Nat.le_succ _))⟩
    clear hrun hrow hgr
    go_upto_region 4 with ((with_reducible refine gate_builtin (b := .append) rfl ?_); at_builtin; refine app_list _ rfl (.tmp 12) (.tmp 13) 36 rfl rfl rfl HRUN.out ?_)
    clear HRUN
    go_wp2
    go_loopw [4] (fun i wr => ∃ i0 : Nat, i0 ≤ l.length ∧ i = .int .i64 (i0 : Int) ∧ Aside0 (RowQ wr W.heap.size 27 2 (.slice A2 l.length c2) l.length (fT (marked i0 E)) ∧ Below W.heap.size W wr)) (fun i _ => l.length - (intOf i).toNat)
    case atStart => exact ⟨0, Nat.zero_le _, rfl, HW3⟩
    case round =>
      clear HW3
      obtain ⟨i, hil, rfl, HS⟩ := hrel
      by_cases hlt : i < l.length
      · have b1 : (0 : Int) ≤ (i : Int) := Int.natCast_nonneg i
        have b2 : (i : Int) < (l.length : Int) := by omega
        have b3 : decide ((i : Int) < (l.length : Int)) = true := decide_eq_true b2
        have b4 : decide (i < l.length) = true := decide_eq_true hlt
        have ht : ((i : Int)).toNat = i := Int.toNat_natCast i
        have hwi : wrap64 ((i : Int) + 1) = (i : Int) + 1 := w64_nat (by have := HE60.out; have := HEN.out; omega)
        have HHi : Aside0 (l.length - ((i : Int) + 1).toNat < l.length - ((i : Int)).toNat) := ⟨meas_nat hlt⟩
        have HL : Aside0 (i + 1 ≤ l.length) := ⟨hlt⟩
        obtain ⟨g, o, cap, cur, hv, y1, y2, y3, y4, y5⟩ := HS.out.1.lies (by omega)
        injection hv with e1 e2 e3
        subst e1 e3
        clear e2
        have HNX : Aside0 (RowQ (wr.setCell ⟨g, o + i * 2 + 1, none⟩ (.int .i64 (i : Int))) W.heap.size 27 2 (.slice (some ⟨g, o, none⟩) l.length c2) l.length (fT (marked (i + 1) E)) ∧ Below W.heap.size W (wr.setCell ⟨g, o + i * 2 + 1, none⟩ (.int .i64 (i : Int)))) := ⟨by
          have h9 := HS.out.1
          rw [← HEN.out] at h9 hlt ⊢
          exact row_mark h9 hlt, HS.out.2.setCell (p := ⟨g, o + i * 2 + 1, none⟩) y1 _⟩
        have hsz : o + i * 2 + 1 < cur.size := by omega
        have hc0 : wr.cell? ⟨g, o + i * 2 + 1, none⟩ = some cur[o + i * 2 + 1] := by simp only [World.cell?, y2]; exact Array.getElem?_eq_getElem hsz
        have hf0 : wr.frozen? ⟨g, o + i * 2 + 1, none⟩ = false := by simp [World.frozen?, y2]
        generalize cur[o + i * 2 + 1] = u0 at hc0
        clear y1 y2 y3 y4 y5 hsz hlt
        go_wp2
        go_roundw
        case rel => exact ⟨i + 1, HL.out, (by first | rfl | (rw [hwi]; rfl)), HNX⟩
        case measure => first | exact HHi.out | (simp only [hwi]; exact HHi.out)
      · have b3 : decide ((i : Int) < (l.length : Int)) = false := decide_eq_false (by omega)
        have b4 : decide (i < l.length) = false := decide_eq_false hlt
        have HZ : Aside0 (i = l.length) := ⟨by omega⟩
        obtain ⟨lm, hlm⟩ : ∃ lm, lm = marked E.length E := ⟨_, rfl⟩
        have HLM : Aside0 (lm = marked E.length E ∧ lm.length = l.length ∧ lm.length ≤ 1000) := ⟨hlm, by rw [hlm, marked_len, HEN.out], by rw [hlm, marked_len]; have := HE60.out; omega⟩
        have HROW : Aside0 (RowQ wr W.heap.size 27 2 (.slice A2 l.length c2) l.length (fT lm) ∧ Below W.heap.size W wr) := ⟨by have h9 := HS.out.1; rw [HZ.out] at h9; rw [hlm, HEN.out]; exact h9, HS.out.2⟩
        clear hlt hlm
        clear HS
        go_upto_region 9 with (go_at_call 23; refine (Order_n HLM.out.2.1 HROW.out.1 HLM.out.2.2).mono ?_; rintro r w4 ⟨v4, M4, rfl, hs4, ho4, hb4⟩; obtain ⟨w4b, hw4b⟩ : ∃ w4b, w4b = wr.heap.size := ⟨_, rfl⟩; rw [← hw4b] at ho4; clear hw4b; obtain ⟨A4, c4, rfl⟩ := own_form ho4; have HO4 := Aside0.mk (And.intro hs4 (And.intro ho4 (And.intro (HROW.out.1.below hb4) (HROW.out.2.trans (hb4.mono HROW.out.2.size))))); clear hs4 ho4 hb4)
        go_upto_region 11 with (first
          | (go_at_call 25; refine (ROrder_n HLM.out.2.1 HO4.out.2.2.1 HLM.out.2.2).mono ?_; rintro r w5 ⟨v5, M5, rfl, hs5, ho5, hb5⟩; have HO5 := Aside0.mk (ord_two HO4.out.1 hs5 HO4.out.2.1 ho5 hb5); clear hs5 ho5; obtain ⟨c5, A5, hv5, h5⟩ := HO5.out; subst hv5; have H5 := Aside0.mk (And.intro h5 (HO4.out.2.2.2.trans (hb5.mono HO4.out.2.2.2.size))); clear h5 hb5)
          | (go_at_call 24; go_loud (refine (Same_n (l1 := seqN M4.length M4) rfl H5.out.1.2.2 H5.out.1.1 H5.out.1.2.1 (seq_small HO4.out.1 HLM.out.2.2)).mono ?_); rintro r w6 ⟨rfl, hl6⟩; have H6 := Aside0.mk (And.intro (own_below' H5.out.1.1 hl6) (H5.out.2.trans (hl6.mono H5.out.2.size))); clear hl6))
        have HIN : Aside0 (M4.Pairwise (fun x y => x.id < y.id) ∧ ∀ x ∈ M4, x.mark = x.id - 1) := ⟨inc_of_strip HO4.out.1, by
          have h8 := HO4.out.1
          rw [HLM.out.1] at h8
          exact marks_ids h8⟩
        have HGS := Aside0.mk (seq_small HO4.out.1 HLM.out.2.2)
        obtain ⟨G, hG⟩ : ∃ G, G = seqN M4.length M4 := ⟨_, rfl⟩
        have HG := Aside0.mk hG
        obtain ⟨gn, hgn⟩ : ∃ gn, gn = G.length := ⟨_, rfl⟩
        have HGN := Aside0.mk hgn
        replace H6 : Aside0 (w6.ownsRow w4b 27 2 (.slice A4 gn c4) gn (fT G) ∧ Below W.heap.size W w6) := ⟨by rw [hgn, hG]; exact H6.out⟩
        replace HGS : Aside0 (gn ≤ 100000) := ⟨by rw [hgn, hG]; exact HGS.out⟩
        rw [← hG, ← hgn]
        clear hG hgn
        have HQ0 := Aside0.mk H6.out.2
        obtain ⟨wo, hwo⟩ : ∃ wo, wo = w6 := ⟨_, rfl⟩
        have HOW : Aside0 (wo.ownsRow w4b 27 2 (.slice A4 gn c4) gn (fT G)) := ⟨by rw [hwo]; exact H6.out.1⟩
        rw [← hwo] at HQ0 ⊢
        clear hwo H6
        go_wp2
        have HQ1 : Aside0 (Below W.heap.size W wo ∧ Below wo.heap.size wo wo) := ⟨HQ0.out, Below.refl _ _⟩
        go_loopw [6] (fun i wr => ∃ p : Nat, p ≤ 100000 ∧ i = .int .i64 ((p : Int) + 1) ∧ Aside0 (Below W.heap.size W wr ∧ Below wo.heap.size wo wr)) (fun i _ => gn - (intOf i).toNat)
        case atStart => exact ⟨0, by omega, rfl, HQ1⟩
        case round =>
          clear HQ0 HQ1
          obtain ⟨p, hp6, rfl, HQ⟩ := hrel
          by_cases hlt : p + 1 < gn
          · obtain ⟨y, hy⟩ : ∃ y, G[p]? = some y := ⟨_, List.getElem?_eq_getElem (Nat.lt_of_lt_of_eq (Nat.lt_of_succ_lt hlt) HGN.out)⟩
            obtain ⟨x, hx⟩ : ∃ x, G[p + 1]? = some x := ⟨_, List.getElem?_eq_getElem (Nat.lt_of_lt_of_eq hlt HGN.out)⟩
            have HNT := Aside0.mk (next_two HG.out HIN.out.1 HIN.out.2 hy hx)
            obtain ⟨gT, rfl, y0, y1⟩ := own_at HOW.out hy HGN.out
            obtain ⟨g8, hg8, x0, x1⟩ := own_at HOW.out hx HGN.out
            injection hg8 with hg8
            injection hg8 with hg8 _
            subst hg8
            replace x0 := pw_cell_below HQ.out.2 x0
            replace x1 := pw_cell_below HQ.out.2 x1
            replace y0 := pw_cell_below HQ.out.2 y0
            replace y1 := pw_cell_below HQ.out.2 y1
            have HHp : Aside0 (gn - ((p : Int) + 1 + 1).toNat < gn - ((p : Int) + 1).toNat) := ⟨meas_p hlt⟩
            have HPL : Aside0 (p + 1 ≤ 100000) := ⟨Nat.le_trans (Nat.le_of_lt hlt) HGS.out⟩
            obtain ⟨b1, b2, b3, b4, b5, b6, t1, t2, w1, w2, w3', hw⟩ := two_facts hlt HGS.out
            clear hy hx hlt hp6
            go_upto_region 14 with fail
            have HC : Aside0 (decide (x.key < y.key) = false) := ⟨decide_eq_false HNT.out.1⟩
            by_cases hk : x.key = y.key
            · have e1 : (x.key == y.key) = true := by simp [hk]
              have e2 : decide (x.mark ≤ y.mark) = false := decide_eq_false (HNT.out.2 hk)
              clear hk
              refine startN (S := fun w' => Below wr.heap.size wr w') (N := [3, 8, 15, 21, 28, 34]) (by kernel_rfl) ?_
              have hHeld : (fun w' => Below wr.heap.size wr w') wr.drew := (Below.refl _ _).drew
              refine takeF (i := 0) (v := _) 39 rfl rfl (by kernel_rfl) (by kernel_rfl) (by kernel_rfl) (fun _ _ _ h => h) (Or.inl ⟨by rfl, fun w' _ => by first | (go_simp; done) | (go_simp; with_reducible rfl) | (go_simp; rfl)⟩) ?_
              try simp only [Act.put, List.setIfInBounds_toArray, List.set_cons_zero, List.set_cons_succ]
              refine takeF (i := 1) (v := _) 40 rfl rfl (by kernel_rfl) (by kernel_rfl) (by kernel_rfl) (fun _ _ _ h => h) (Or.inl ⟨by rfl, fun w' _ => by first | (go_simp; done) | (go_simp; with_reducible rfl) | (go_simp; rfl)⟩) ?_
              try simp only [Act.put, List.setIfInBounds_toArray, List.set_cons_zero, List.set_cons_succ]
              refine takeF (i := 2) (v := _) 41 rfl rfl (by kernel_rfl) (by kernel_rfl) (by kernel_rfl) (fun _ _ _ h => h) (Or.inl ⟨by rfl, fun w' _ => by first | (go_simp; done) | (go_simp; with_reducible rfl) | (go_simp; rfl)⟩) ?_
              try simp only [Act.put, List.setIfInBounds_toArray, List.set_cons_zero, List.set_cons_succ]
              refine takeN (i := 3) (v := _) 42 rfl rfl (by kernel_rfl) (by kernel_rfl) (by kernel_rfl) (fun _ _ _ h => h) (by kernel_rfl) (Or.inl ⟨by rfl, fun w' hW => by have hq0 := pw_cell_below hW x0; have hq1 := pw_cell_below hW x1; have hq2 := pw_cell_below hW y0; have hq3 := pw_cell_below hW y1; first | (go_simp; done) | (go_simp; with_reducible rfl) | (go_simp; rfl)⟩) hHeld ?_
              try simp only [Act.put, List.setIfInBounds_toArray, List.set_cons_zero, List.set_cons_succ]
              refine takeF (i := 4) (v := _) 43 rfl rfl (by kernel_rfl) (by kernel_rfl) (by kernel_rfl) (fun _ _ _ h => h) (Or.inl ⟨by rfl, fun w' _ => by first | (go_simp; done) | (go_simp; with_reducible rfl) | (go_simp; rfl)⟩) ?_
              try simp only [Act.put, List.setIfInBounds_toArray, List.set_cons_zero, List.set_cons_succ]
              refine takeF (i := 5) (v := _) 44 rfl rfl (by kernel_rfl) (by kernel_rfl) (by kernel_rfl) (fun _ _ _ h => h) (Or.inl ⟨by rfl, fun w' _ => by first | (go_simp; done) | (go_simp; with_reducible rfl) | (go_simp; rfl)⟩) ?_
              try simp only [Act.put, List.setIfInBounds_toArray, List.set_cons_zero, List.set_cons_succ]
              refine takeF (i := 6) (v := _) 45 rfl rfl (by kernel_rfl) (by kernel_rfl) (by kernel_rfl) (fun _ _ _ h => h) (Or.inl ⟨by rfl, fun w' _ => by first | (go_simp; done) | (go_simp; with_reducible rfl) | (go_simp; rfl)⟩) ?_
              try simp only [Act.put, List.setIfInBounds_toArray, List.set_cons_zero, List.set_cons_succ]
              refine takeF (i := 7) (v := _) 46 rfl rfl (by kernel_rfl) (by kernel_rfl) (by kernel_rfl) (fun _ _ _ h => h) (Or.inl ⟨by rfl, fun w' _ => by first | (go_simp; done) | (go_simp; with_reducible rfl) | (go_simp; rfl)⟩) ?_
              try simp only [Act.put, List.setIfInBounds_toArray, List.set_cons_zero, List.set_cons_succ]
              refine takeN (i := 8) (v := _) 47 rfl rfl (by kernel_rfl) (by kernel_rfl) (by kernel_rfl) (fun _ _ _ h => h) (by kernel_rfl) (Or.inl ⟨by rfl, fun w' hW => by have hq0 := pw_cell_below hW x0; have hq1 := pw_cell_below hW x1; have hq2 := pw_cell_below hW y0; have hq3 := pw_cell_below hW y1; first | (go_simp; done) | (go_simp; with_reducible rfl) | (go_simp; rfl)⟩) hHeld ?_
              try simp only [Act.put, List.setIfInBounds_toArray, List.set_cons_zero, List.set_cons_succ]
              have HB1 : Aside0 (Below wr.heap.size wr wr.drew) := ⟨(Below.refl _ _).drew⟩
              clear hHeld
              generalize wr.drew = w3 at HB1 ⊢
              refine readyN (rs := [9]) (by kernel_rfl) (by simp) ?_
              refine eachN.cons rfl (fun K hK => ?_) eachN.nil
              go_simp
              go_wp2_with (go_at_call 9; refine (less_calls x.key x.mark y.key y.mark _).mono ?_; rewrite [HC.out]; rintro e w4 ⟨rfl, hl⟩; have HB2 : Aside0 (Below wr.heap.size wr w4) := ⟨HB1.out.trans (hl.mono HB1.out.size)⟩; clear hl)
              refine hK.out _ _ HB2.out (fun hHeld => ?_)
              clear hK K
              try simp only [Act.put, List.setIfInBounds_toArray, List.set_cons_zero, List.set_cons_succ]
              refine takeF (i := 10) (v := _) 49 rfl rfl (by kernel_rfl) (by kernel_rfl) (by kernel_rfl) (fun _ _ _ h => h) (Or.inl ⟨by rfl, fun w' _ => by first | (go_simp; done) | (go_simp; with_reducible rfl) | (go_simp; rfl)⟩) ?_
              try simp only [Act.put, List.setIfInBounds_toArray, List.set_cons_zero, List.set_cons_succ]
              refine takeF (i := 11) (v := _) 50 rfl rfl (by kernel_rfl) (by kernel_rfl) (by kernel_rfl) (fun _ _ _ h => h) (Or.inl ⟨by rfl, fun w' _ => by first | (go_simp; done) | (go_simp; with_reducible rfl) | (go_simp; rfl)⟩) ?_
              try simp only [Act.put, List.setIfInBounds_toArray, List.set_cons_zero, List.set_cons_succ]
              refine takeF (i := 12) (v := _) 51 rfl rfl (by kernel_rfl) (by kernel_rfl) (by kernel_rfl) (fun _ _ _ h => h) (Or.inl ⟨by rfl, fun w' _ => by first | (go_simp; done) | (go_simp; with_reducible rfl) | (go_simp; rfl)⟩) ?_
              try simp only [Act.put, List.setIfInBounds_toArray, List.set_cons_zero, List.set_cons_succ]
              refine takeF (i := 13) (v := _) 52 rfl rfl (by kernel_rfl) (by kernel_rfl) (by kernel_rfl) (fun _ _ _ h => h) (Or.inl ⟨by rfl, fun w' _ => by first | (go_simp; done) | (go_simp; with_reducible rfl) | (go_simp; rfl)⟩) ?_
              try simp only [Act.put, List.setIfInBounds_toArray, List.set_cons_zero, List.set_cons_succ]
              refine takeF (i := 14) (v := _) 53 rfl rfl (by kernel_rfl) (by kernel_rfl) (by kernel_rfl) (fun _ _ _ h => h) (Or.inl ⟨by rfl, fun w' _ => by first | (go_simp; done) | (go_simp; with_reducible rfl) | (go_simp; rfl)⟩) ?_
              try simp only [Act.put, List.setIfInBounds_toArray, List.set_cons_zero, List.set_cons_succ]
              refine takeN (i := 15) (v := _) 54 rfl rfl (by kernel_rfl) (by kernel_rfl) (by kernel_rfl) (fun _ _ _ h => h) (by kernel_rfl) (Or.inl ⟨by rfl, fun w' hW => by have hq0 := pw_cell_below hW x0; have hq1 := pw_cell_below hW x1; have hq2 := pw_cell_below hW y0; have hq3 := pw_cell_below hW y1; first | (go_simp; done) | (go_simp; with_reducible rfl) | (go_simp; rfl)⟩) hHeld ?_
              try simp only [Act.put, List.setIfInBounds_toArray, List.set_cons_zero, List.set_cons_succ]
              refine takeF (i := 16) (v := _) 55 rfl rfl (by kernel_rfl) (by kernel_rfl) (by kernel_rfl) (fun _ _ _ h => h) (Or.inl ⟨by rfl, fun w' _ => by first | (go_simp; done) | (go_simp; with_reducible rfl) | (go_simp; rfl)⟩) ?_
              try simp only [Act.put, List.setIfInBounds_toArray, List.set_cons_zero, List.set_cons_succ]
              refine takeF (i := 17) (v := _) 56 rfl rfl (by kernel_rfl) (by kernel_rfl) (by kernel_rfl) (fun _ _ _ h => h) (Or.inl ⟨by rfl, fun w' _ => by first | (go_simp; done) | (go_simp; with_reducible rfl) | (go_simp; rfl)⟩) ?_
              try simp only [Act.put, List.setIfInBounds_toArray, List.set_cons_zero, List.set_cons_succ]
              refine takeF (i := 18) (v := _) 57 rfl rfl (by kernel_rfl) (by kernel_rfl) (by kernel_rfl) (fun _ _ _ h => h) (Or.inl ⟨by rfl, fun w' _ => by first | (go_simp; done) | (go_simp; with_reducible rfl) | (go_simp; rfl)⟩) ?_
              try simp only [Act.put, List.setIfInBounds_toArray, List.set_cons_zero, List.set_cons_succ]
              refine takeF (i := 19) (v := _) 58 rfl rfl (by kernel_rfl) (by kernel_rfl) (by kernel_rfl) (fun _ _ _ h => h) (Or.inl ⟨by rfl, fun w' _ => by first | (go_simp; done) | (go_simp; with_reducible rfl) | (go_simp; rfl)⟩) ?_
              try simp only [Act.put, List.setIfInBounds_toArray, List.set_cons_zero, List.set_cons_succ]
              refine takeF (i := 20) (v := _) 59 rfl rfl (by kernel_rfl) (by kernel_rfl) (by kernel_rfl) (fun _ _ _ h => h) (Or.inl ⟨by rfl, fun w' _ => by first | (go_simp; done) | (go_simp; with_reducible rfl) | (go_simp; rfl)⟩) ?_
              try simp only [Act.put, List.setIfInBounds_toArray, List.set_cons_zero, List.set_cons_succ]
              refine takeN (i := 21) (v := _) 60 rfl rfl (by kernel_rfl) (by kernel_rfl) (by kernel_rfl) (fun _ _ _ h => h) (by kernel_rfl) (Or.inl ⟨by rfl, fun w' hW => by have hq0 := pw_cell_below hW x0; have hq1 := pw_cell_below hW x1; have hq2 := pw_cell_below hW y0; have hq3 := pw_cell_below hW y1; first | (go_simp; done) | (go_simp; with_reducible rfl) | (go_simp; rfl)⟩) hHeld ?_
              try simp only [Act.put, List.setIfInBounds_toArray, List.set_cons_zero, List.set_cons_succ]
              refine takeF (i := 22) (v := _) 61 rfl rfl (by kernel_rfl) (by kernel_rfl) (by kernel_rfl) (fun _ _ _ h => h) (Or.inl ⟨by rfl, fun w' _ => by first | (go_simp; done) | (go_simp; with_reducible rfl) | (go_simp; rfl)⟩) ?_
              try simp only [Act.put, List.setIfInBounds_toArray, List.set_cons_zero, List.set_cons_succ]
              refine takeF (i := 23) (v := _) 62 rfl rfl (by kernel_rfl) (by kernel_rfl) (by kernel_rfl) (fun _ _ _ h => h) (Or.inl ⟨by rfl, fun w' _ => by first | (go_simp; done) | (go_simp; with_reducible rfl) | (go_simp; rfl)⟩) ?_
              try simp only [Act.put, List.setIfInBounds_toArray, List.set_cons_zero, List.set_cons_succ]
              refine takeF (i := 24) (v := _) 63 rfl rfl (by kernel_rfl) (by kernel_rfl) (by kernel_rfl) (fun _ _ _ h => h) (Or.inl ⟨by rfl, fun w' _ => by first | (go_simp; done) | (go_simp; with_reducible rfl) | (go_simp; rfl)⟩) ?_
              try simp only [Act.put, List.setIfInBounds_toArray, List.set_cons_zero, List.set_cons_succ]
              refine takeF (i := 25) (v := _) 64 rfl rfl (by kernel_rfl) (by kernel_rfl) (by kernel_rfl) (fun _ _ _ h => h) (Or.inl ⟨by rfl, fun w' _ => by first | (go_simp; done) | (go_simp; with_reducible rfl) | (go_simp; rfl)⟩) ?_
              try simp only [Act.put, List.setIfInBounds_toArray, List.set_cons_zero, List.set_cons_succ]
              refine takeF (i := 26) (v := _) 65 rfl rfl (by kernel_rfl) (by kernel_rfl) (by kernel_rfl) (fun _ _ _ h => h) (Or.inl ⟨by rfl, fun w' _ => by first | (go_simp; done) | (go_simp; with_reducible rfl) | (go_simp; rfl)⟩) ?_
              try simp only [Act.put, List.setIfInBounds_toArray, List.set_cons_zero, List.set_cons_succ]
              refine takeF (i := 27) (v := _) 66 rfl rfl (by kernel_rfl) (by kernel_rfl) (by kernel_rfl) (fun _ _ _ h => h) (Or.inl ⟨by rfl, fun w' _ => by first | (go_simp; done) | (go_simp; with_reducible rfl) | (go_simp; rfl)⟩) ?_
              try simp only [Act.put, List.setIfInBounds_toArray, List.set_cons_zero, List.set_cons_succ]
              refine takeN (i := 28) (v := _) 67 rfl rfl (by kernel_rfl) (by kernel_rfl) (by kernel_rfl) (fun _ _ _ h => h) (by kernel_rfl) (Or.inl ⟨by rfl, fun w' hW => by have hq0 := pw_cell_below hW x0; have hq1 := pw_cell_below hW x1; have hq2 := pw_cell_below hW y0; have hq3 := pw_cell_below hW y1; first | (go_simp; done) | (go_simp; with_reducible rfl) | (go_simp; rfl)⟩) hHeld ?_
              try simp only [Act.put, List.setIfInBounds_toArray, List.set_cons_zero, List.set_cons_succ]
              refine takeF (i := 29) (v := _) 68 rfl rfl (by kernel_rfl) (by kernel_rfl) (by kernel_rfl) (fun _ _ _ h => h) (Or.inl ⟨by rfl, fun w' _ => by first | (go_simp; done) | (go_simp; with_reducible rfl) | (go_simp; rfl)⟩) ?_
              try simp only [Act.put, List.setIfInBounds_toArray, List.set_cons_zero, List.set_cons_succ]
              refine takeF (i := 30) (v := _) 69 rfl rfl (by kernel_rfl) (by kernel_rfl) (by kernel_rfl) (fun _ _ _ h => h) (Or.inl ⟨by rfl, fun w' _ => by first | (go_simp; done) | (go_simp; with_reducible rfl) | (go_simp; rfl)⟩) ?_
              try simp only [Act.put, List.setIfInBounds_toArray, List.set_cons_zero, List.set_cons_succ]
              refine takeF (i := 31) (v := _) 70 rfl rfl (by kernel_rfl) (by kernel_rfl) (by kernel_rfl) (fun _ _ _ h => h) (Or.inl ⟨by rfl, fun w' _ => by first | (go_simp; done) | (go_simp; with_reducible rfl) | (go_simp; rfl)⟩) ?_
              try simp only [Act.put, List.setIfInBounds_toArray, List.set_cons_zero, List.set_cons_succ]
              refine takeF (i := 32) (v := _) 71 rfl rfl (by kernel_rfl) (by kernel_rfl) (by kernel_rfl) (fun _ _ _ h => h) (Or.inl ⟨by rfl, fun w' _ => by first | (go_simp; done) | (go_simp; with_reducible rfl) | (go_simp; rfl)⟩) ?_
              try simp only [Act.put, List.setIfInBounds_toArray, List.set_cons_zero, List.set_cons_succ]
              refine takeF (i := 33) (v := _) 72 rfl rfl (by kernel_rfl) (by kernel_rfl) (by kernel_rfl) (fun _ _ _ h => h) (Or.inl ⟨by rfl, fun w' _ => by first | (go_simp; done) | (go_simp; with_reducible rfl) | (go_simp; rfl)⟩) ?_
              try simp only [Act.put, List.setIfInBounds_toArray, List.set_cons_zero, List.set_cons_succ]
              refine takeN (i := 34) (v := _) 73 rfl rfl (by kernel_rfl) (by kernel_rfl) (by kernel_rfl) (fun _ _ _ h => h) (by kernel_rfl) (Or.inl ⟨by rfl, fun w' hW => by have hq0 := pw_cell_below hW x0; have hq1 := pw_cell_below hW x1; have hq2 := pw_cell_below hW y0; have hq3 := pw_cell_below hW y1; first | (go_simp; done) | (go_simp; with_reducible rfl) | (go_simp; rfl)⟩) hHeld ?_
              try simp only [Act.put, List.setIfInBounds_toArray, List.set_cons_zero, List.set_cons_succ]
              refine takeF (i := 35) (v := _) 74 rfl rfl (by kernel_rfl) (by kernel_rfl) (by kernel_rfl) (fun _ _ _ h => h) (Or.inl ⟨by rfl, fun w' _ => by first | (go_simp; done) | (go_simp; with_reducible rfl) | (go_simp; rfl)⟩) ?_
              try simp only [Act.put, List.setIfInBounds_toArray, List.set_cons_zero, List.set_cons_succ]
              refine takeF (i := 36) (v := _) 75 rfl rfl (by kernel_rfl) (by kernel_rfl) (by kernel_rfl) (fun _ _ _ h => h) (Or.inl ⟨by rfl, fun w' _ => by first | (go_simp; done) | (go_simp; with_reducible rfl) | (go_simp; rfl)⟩) ?_
              try simp only [Act.put, List.setIfInBounds_toArray, List.set_cons_zero, List.set_cons_succ]
              refine takeF (i := 37) (v := _) 76 rfl rfl (by kernel_rfl) (by kernel_rfl) (by kernel_rfl) (fun _ _ _ h => h) (Or.inl ⟨by rfl, fun w' _ => by first | (go_simp; done) | (go_simp; with_reducible rfl) | (go_simp; rfl)⟩) ?_
              try simp only [Act.put, List.setIfInBounds_toArray, List.set_cons_zero, List.set_cons_succ]
              refine doneN (by kernel_rfl) ?_ _
              clear x0 x1 y0 y1 b1 b2 t1 t2
              go_wp2
              go_roundw
              case rel => exact ⟨p + 1, HPL.out, (by first | rfl | (rw [hw]; rfl)), ⟨HQ.out.1.trans (HB2.out.mono HQ.out.1.size), HQ.out.2.trans (HB2.out.mono HQ.out.2.size)⟩⟩
              case measure => first | exact HHp.out | (simp only [hw]; exact HHp.out)
            · have e1 : (x.key == y.key) = false := by simp [hk]
              clear hk
              refine startN (S := fun w' => Below wr.heap.size wr w') (N := [3, 8, 15, 21, 28, 34]) (by kernel_rfl) ?_
              have hHeld : (fun w' => Below wr.heap.size wr w') wr.drew := (Below.refl _ _).drew
              refine takeF (i := 0) (v := _) 39 rfl rfl (by kernel_rfl) (by kernel_rfl) (by kernel_rfl) (fun _ _ _ h => h) (Or.inl ⟨by rfl, fun w' _ => by first | (go_simp; done) | (go_simp; with_reducible rfl) | (go_simp; rfl)⟩) ?_
              try simp only [Act.put, List.setIfInBounds_toArray, List.set_cons_zero, List.set_cons_succ]
              refine takeF (i := 1) (v := _) 40 rfl rfl (by kernel_rfl) (by kernel_rfl) (by kernel_rfl) (fun _ _ _ h => h) (Or.inl ⟨by rfl, fun w' _ => by first | (go_simp; done) | (go_simp; with_reducible rfl) | (go_simp; rfl)⟩) ?_
              try simp only [Act.put, List.setIfInBounds_toArray, List.set_cons_zero, List.set_cons_succ]
              refine takeF (i := 2) (v := _) 41 rfl rfl (by kernel_rfl) (by kernel_rfl) (by kernel_rfl) (fun _ _ _ h => h) (Or.inl ⟨by rfl, fun w' _ => by first | (go_simp; done) | (go_simp; with_reducible rfl) | (go_simp; rfl)⟩) ?_
              try simp only [Act.put, List.setIfInBounds_toArray, List.set_cons_zero, List.set_cons_succ]
              refine takeN (i := 3) (v := _) 42 rfl rfl (by kernel_rfl) (by kernel_rfl) (by kernel_rfl) (fun _ _ _ h => h) (by kernel_rfl) (Or.inl ⟨by rfl, fun w' hW => by have hq0 := pw_cell_below hW x0; have hq1 := pw_cell_below hW x1; have hq2 := pw_cell_below hW y0; have hq3 := pw_cell_below hW y1; first | (go_simp; done) | (go_simp; with_reducible rfl) | (go_simp; rfl)⟩) hHeld ?_
              try simp only [Act.put, List.setIfInBounds_toArray, List.set_cons_zero, List.set_cons_succ]
              refine takeF (i := 4) (v := _) 43 rfl rfl (by kernel_rfl) (by kernel_rfl) (by kernel_rfl) (fun _ _ _ h => h) (Or.inl ⟨by rfl, fun w' _ => by first | (go_simp; done) | (go_simp; with_reducible rfl) | (go_simp; rfl)⟩) ?_
              try simp only [Act.put, List.setIfInBounds_toArray, List.set_cons_zero, List.set_cons_succ]
              refine takeF (i := 5) (v := _) 44 rfl rfl (by kernel_rfl) (by kernel_rfl) (by kernel_rfl) (fun _ _ _ h => h) (Or.inl ⟨by rfl, fun w' _ => by first | (go_simp; done) | (go_simp; with_reducible rfl) | (go_simp; rfl)⟩) ?_
              try simp only [Act.put, List.setIfInBounds_toArray, List.set_cons_zero, List.set_cons_succ]
              refine takeF (i := 6) (v := _) 45 rfl rfl (by kernel_rfl) (by kernel_rfl) (by kernel_rfl) (fun _ _ _ h => h) (Or.inl ⟨by rfl, fun w' _ => by first | (go_simp; done) | (go_simp; with_reducible rfl) | (go_simp; rfl)⟩) ?_
              try simp only [Act.put, List.setIfInBounds_toArray, List.set_cons_zero, List.set_cons_succ]
              refine takeF (i := 7) (v := _) 46 rfl rfl (by kernel_rfl) (by kernel_rfl) (by kernel_rfl) (fun _ _ _ h => h) (Or.inl ⟨by rfl, fun w' _ => by first | (go_simp; done) | (go_simp; with_reducible rfl) | (go_simp; rfl)⟩) ?_
              try simp only [Act.put, List.setIfInBounds_toArray, List.set_cons_zero, List.set_cons_succ]
              refine takeN (i := 8) (v := _) 47 rfl rfl (by kernel_rfl) (by kernel_rfl) (by kernel_rfl) (fun _ _ _ h => h) (by kernel_rfl) (Or.inl ⟨by rfl, fun w' hW => by have hq0 := pw_cell_below hW x0; have hq1 := pw_cell_below hW x1; have hq2 := pw_cell_below hW y0; have hq3 := pw_cell_below hW y1; first | (go_simp; done) | (go_simp; with_reducible rfl) | (go_simp; rfl)⟩) hHeld ?_
              try simp only [Act.put, List.setIfInBounds_toArray, List.set_cons_zero, List.set_cons_succ]
              have HB1 : Aside0 (Below wr.heap.size wr wr.drew) := ⟨(Below.refl _ _).drew⟩
              clear hHeld
              generalize wr.drew = w3 at HB1 ⊢
              refine readyN (rs := [9]) (by kernel_rfl) (by simp) ?_
              refine eachN.cons rfl (fun K hK => ?_) eachN.nil
              go_simp
              go_wp2_with (go_at_call 9; refine (less_calls x.key x.mark y.key y.mark _).mono ?_; rewrite [HC.out]; rintro e w4 ⟨rfl, hl⟩; have HB2 : Aside0 (Below wr.heap.size wr w4) := ⟨HB1.out.trans (hl.mono HB1.out.size)⟩; clear hl)
              refine hK.out _ _ HB2.out (fun hHeld => ?_)
              clear hK K
              try simp only [Act.put, List.setIfInBounds_toArray, List.set_cons_zero, List.set_cons_succ]
              refine takeF (i := 10) (v := _) 49 rfl rfl (by kernel_rfl) (by kernel_rfl) (by kernel_rfl) (fun _ _ _ h => h) (Or.inl ⟨by rfl, fun w' _ => by first | (go_simp; done) | (go_simp; with_reducible rfl) | (go_simp; rfl)⟩) ?_
              try simp only [Act.put, List.setIfInBounds_toArray, List.set_cons_zero, List.set_cons_succ]
              refine takeF (i := 11) (v := _) 50 rfl rfl (by kernel_rfl) (by kernel_rfl) (by kernel_rfl) (fun _ _ _ h => h) (Or.inl ⟨by rfl, fun w' _ => by first | (go_simp; done) | (go_simp; with_reducible rfl) | (go_simp; rfl)⟩) ?_
              try simp only [Act.put, List.setIfInBounds_toArray, List.set_cons_zero, List.set_cons_succ]
              refine takeF (i := 12) (v := _) 51 rfl rfl (by kernel_rfl) (by kernel_rfl) (by kernel_rfl) (fun _ _ _ h => h) (Or.inl ⟨by rfl, fun w' _ => by first | (go_simp; done) | (go_simp; with_reducible rfl) | (go_simp; rfl)⟩) ?_
              try simp only [Act.put, List.setIfInBounds_toArray, List.set_cons_zero, List.set_cons_succ]
              refine takeF (i := 13) (v := _) 52 rfl rfl (by kernel_rfl) (by kernel_rfl) (by kernel_rfl) (fun _ _ _ h => h) (Or.inl ⟨by rfl, fun w' _ => by first | (go_simp; done) | (go_simp; with_reducible rfl) | (go_simp; rfl)⟩) ?_
              try simp only [Act.put, List.setIfInBounds_toArray, List.set_cons_zero, List.set_cons_succ]
              refine takeF (i := 14) (v := _) 53 rfl rfl (by kernel_rfl) (by kernel_rfl) (by kernel_rfl) (fun _ _ _ h => h) (Or.inl ⟨by rfl, fun w' _ => by first | (go_simp; done) | (go_simp; with_reducible rfl) | (go_simp; rfl)⟩) ?_
              try simp only [Act.put, List.setIfInBounds_toArray, List.set_cons_zero, List.set_cons_succ]
              refine takeN (i := 15) (v := _) 54 rfl rfl (by kernel_rfl) (by kernel_rfl) (by kernel_rfl) (fun _ _ _ h => h) (by kernel_rfl) (Or.inl ⟨by rfl, fun w' hW => by have hq0 := pw_cell_below hW x0; have hq1 := pw_cell_below hW x1; have hq2 := pw_cell_below hW y0; have hq3 := pw_cell_below hW y1; first | (go_simp; done) | (go_simp; with_reducible rfl) | (go_simp; rfl)⟩) hHeld ?_
              try simp only [Act.put, List.setIfInBounds_toArray, List.set_cons_zero, List.set_cons_succ]
              refine takeF (i := 16) (v := _) 55 rfl rfl (by kernel_rfl) (by kernel_rfl) (by kernel_rfl) (fun _ _ _ h => h) (Or.inl ⟨by rfl, fun w' _ => by first | (go_simp; done) | (go_simp; with_reducible rfl) | (go_simp; rfl)⟩) ?_
              try simp only [Act.put, List.setIfInBounds_toArray, List.set_cons_zero, List.set_cons_succ]
              refine takeF (i := 17) (v := _) 56 rfl rfl (by kernel_rfl) (by kernel_rfl) (by kernel_rfl) (fun _ _ _ h => h) (Or.inl ⟨by rfl, fun w' _ => by first | (go_simp; done) | (go_simp; with_reducible rfl) | (go_simp; rfl)⟩) ?_
              try simp only [Act.put, List.setIfInBounds_toArray, List.set_cons_zero, List.set_cons_succ]
              refine takeF (i := 18) (v := _) 57 rfl rfl (by kernel_rfl) (by kernel_rfl) (by kernel_rfl) (fun _ _ _ h => h) (Or.inl ⟨by rfl, fun w' _ => by first | (go_simp; done) | (go_simp; with_reducible rfl) | (go_simp; rfl)⟩) ?_
              try simp only [Act.put, List.setIfInBounds_toArray, List.set_cons_zero, List.set_cons_succ]
              refine takeF (i := 19) (v := _) 58 rfl rfl (by kernel_rfl) (by kernel_rfl) (by kernel_rfl) (fun _ _ _ h => h) (Or.inl ⟨by rfl, fun w' _ => by first | (go_simp; done) | (go_simp; with_reducible rfl) | (go_simp; rfl)⟩) ?_
              try simp only [Act.put, List.setIfInBounds_toArray, List.set_cons_zero, List.set_cons_succ]
              refine takeF (i := 20) (v := _) 59 rfl rfl (by kernel_rfl) (by kernel_rfl) (by kernel_rfl) (fun _ _ _ h => h) (Or.inl ⟨by rfl, fun w' _ => by first | (go_simp; done) | (go_simp; with_reducible rfl) | (go_simp; rfl)⟩) ?_
              try simp only [Act.put, List.setIfInBounds_toArray, List.set_cons_zero, List.set_cons_succ]
              refine takeN (i := 21) (v := _) 60 rfl rfl (by kernel_rfl) (by kernel_rfl) (by kernel_rfl) (fun _ _ _ h => h) (by kernel_rfl) (Or.inl ⟨by rfl, fun w' hW => by have hq0 := pw_cell_below hW x0; have hq1 := pw_cell_below hW x1; have hq2 := pw_cell_below hW y0; have hq3 := pw_cell_below hW y1; first | (go_simp; done) | (go_simp; with_reducible rfl) | (go_simp; rfl)⟩) hHeld ?_
              try simp only [Act.put, List.setIfInBounds_toArray, List.set_cons_zero, List.set_cons_succ]
              refine takeF (i := 22) (v := _) 61 rfl rfl (by kernel_rfl) (by kernel_rfl) (by kernel_rfl) (fun _ _ _ h => h) (Or.inl ⟨by rfl, fun w' _ => by first | (go_simp; done) | (go_simp; with_reducible rfl) | (go_simp; rfl)⟩) ?_
              try simp only [Act.put, List.setIfInBounds_toArray, List.set_cons_zero, List.set_cons_succ]
              refine takeF (i := 23) (v := _) 62 rfl rfl (by kernel_rfl) (by kernel_rfl) (by kernel_rfl) (fun _ _ _ h => h) (Or.inl ⟨by rfl, fun w' _ => by first | (go_simp; done) | (go_simp; with_reducible rfl) | (go_simp; rfl)⟩) ?_
              try simp only [Act.put, List.setIfInBounds_toArray, List.set_cons_zero, List.set_cons_succ]
              refine takeF (i := 24) (v := undef) 63 rfl rfl (by kernel_rfl) (by kernel_rfl) (by kernel_rfl) (fun _ _ _ h => h) (Or.inr ⟨by rfl, rfl⟩) ?_
              try simp only [Act.put, List.setIfInBounds_toArray, List.set_cons_zero, List.set_cons_succ]
              refine takeF (i := 25) (v := undef) 64 rfl rfl (by kernel_rfl) (by kernel_rfl) (by kernel_rfl) (fun _ _ _ h => h) (Or.inr ⟨by rfl, rfl⟩) ?_
              try simp only [Act.put, List.setIfInBounds_toArray, List.set_cons_zero, List.set_cons_succ]
              refine takeF (i := 26) (v := undef) 65 rfl rfl (by kernel_rfl) (by kernel_rfl) (by kernel_rfl) (fun _ _ _ h => h) (Or.inr ⟨by rfl, rfl⟩) ?_
              try simp only [Act.put, List.setIfInBounds_toArray, List.set_cons_zero, List.set_cons_succ]
              refine takeF (i := 27) (v := undef) 66 rfl rfl (by kernel_rfl) (by kernel_rfl) (by kernel_rfl) (fun _ _ _ h => h) (Or.inr ⟨by rfl, rfl⟩) ?_
              try simp only [Act.put, List.setIfInBounds_toArray, List.set_cons_zero, List.set_cons_succ]
              refine takeN (i := 28) (v := undef) 67 rfl rfl (by kernel_rfl) (by kernel_rfl) (by kernel_rfl) (fun _ _ _ h => h) (by kernel_rfl) (Or.inr ⟨by rfl, rfl⟩) hHeld ?_
              try simp only [Act.put, List.setIfInBounds_toArray, List.set_cons_zero, List.set_cons_succ]
              refine takeF (i := 29) (v := undef) 68 rfl rfl (by kernel_rfl) (by kernel_rfl) (by kernel_rfl) (fun _ _ _ h => h) (Or.inr ⟨by rfl, rfl⟩) ?_
              try simp only [Act.put, List.setIfInBounds_toArray, List.set_cons_zero, List.set_cons_succ]
              refine takeF (i := 30) (v := undef) 69 rfl rfl (by kernel_rfl) (by kernel_rfl) (by kernel_rfl) (fun _ _ _ h => h) (Or.inr ⟨by rfl, rfl⟩) ?_
              try simp only [Act.put, List.setIfInBounds_toArray, List.set_cons_zero, List.set_cons_succ]
              refine takeF (i := 31) (v := undef) 70 rfl rfl (by kernel_rfl) (by kernel_rfl) (by kernel_rfl) (fun _ _ _ h => h) (Or.inr ⟨by rfl, rfl⟩) ?_
              try simp only [Act.put, List.setIfInBounds_toArray, List.set_cons_zero, List.set_cons_succ]
              refine takeF (i := 32) (v := undef) 71 rfl rfl (by kernel_rfl) (by kernel_rfl) (by kernel_rfl) (fun _ _ _ h => h) (Or.inr ⟨by rfl, rfl⟩) ?_
              try simp only [Act.put, List.setIfInBounds_toArray, List.set_cons_zero, List.set_cons_succ]
              refine takeF (i := 33) (v := undef) 72 rfl rfl (by kernel_rfl) (by kernel_rfl) (by kernel_rfl) (fun _ _ _ h => h) (Or.inr ⟨by rfl, rfl⟩) ?_
              try simp only [Act.put, List.setIfInBounds_toArray, List.set_cons_zero, List.set_cons_succ]
              refine takeN (i := 34) (v := undef) 73 rfl rfl (by kernel_rfl) (by kernel_rfl) (by kernel_rfl) (fun _ _ _ h => h) (by kernel_rfl) (Or.inr ⟨by rfl, rfl⟩) hHeld ?_
              try simp only [Act.put, List.setIfInBounds_toArray, List.set_cons_zero, List.set_cons_succ]
              refine takeF (i := 35) (v := undef) 74 rfl rfl (by kernel_rfl) (by kernel_rfl) (by kernel_rfl) (fun _ _ _ h => h) (Or.inr ⟨by rfl, rfl⟩) ?_
              try simp only [Act.put, List.setIfInBounds_toArray, List.set_cons_zero, List.set_cons_succ]
              refine takeF (i := 36) (v := _) 75 rfl rfl (by kernel_rfl) (by kernel_rfl) (by kernel_rfl) (fun _ _ _ h => h) (Or.inl ⟨by rfl, fun w' _ => by first | (go_simp; done) | (go_simp; with_reducible rfl) | (go_simp; rfl)⟩) ?_
              try simp only [Act.put, List.setIfInBounds_toArray, List.set_cons_zero, List.set_cons_succ]
              refine takeF (i := 37) (v := _) 76 rfl rfl (by kernel_rfl) (by kernel_rfl) (by kernel_rfl) (fun _ _ _ h => h) (Or.inl ⟨by rfl, fun w' _ => by first | (go_simp; done) | (go_simp; with_reducible rfl) | (go_simp; rfl)⟩) ?_
              try simp only [Act.put, List.setIfInBounds_toArray, List.set_cons_zero, List.set_cons_succ]
              refine doneN (by kernel_rfl) ?_ _
              clear x0 x1 y0 y1 b1 b2 t1 t2
              go_wp2
              go_roundw
              case rel => exact ⟨p + 1, HPL.out, (by first | rfl | (rw [hw]; rfl)), ⟨HQ.out.1.trans (HB2.out.mono HQ.out.1.size), HQ.out.2.trans (HB2.out.mono HQ.out.2.size)⟩⟩
              case measure => first | exact HHp.out | (simp only [hw]; exact HHp.out)
          · have b3 : decide ((p : Int) + 1 < (gn : Int)) = false := decide_eq_false (by omega)
            have b4 : decide (p + 1 < gn) = false := decide_eq_false hlt
            have HBE := Aside0.mk HQ.out.1
            clear hlt
            go_wp2_with (go_at_call 13; refine (alive_calls _).mono ?_; rintro e w5 ⟨rfl, hl5⟩; have HAL := Aside0.mk (HBE.out.trans (hl5.mono HBE.out.size)); clear hl5)
            go_ret
            exact ⟨rfl, HAL.out⟩
end Go.Proofs.Ythjppjcmapgkpaa.QAg
