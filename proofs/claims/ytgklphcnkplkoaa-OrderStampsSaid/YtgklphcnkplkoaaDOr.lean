/- OrderStamps: slices.Compact at stamps, walked by hand. -/
import Derived.Test.YtgklphcnkplkoaaCOr
namespace Go.Proofs.Ytgklphcnkplkoaa.QSt
open Go.RowKit Go.Proofs.YtgklphcnkplkoaaW.PrintWords Go.Proofs.YtgklphcnkplkoaaW.PrintLast Go.Proofs.YtgklphcnkplkoaaW.PrintMore
open Go.Proofs.Ytgklphcnkplkoaa.SK (St enc flat flat_len flat_get)
set_option linter.unusedVariables false
set_option linter.unusedSimpArgs false
/-- Compact at none and at one. -/
theorem Compact_few (A : Option Addr) (n cap : Nat) (w : World) (h : n < 2) : Calls Try.prog 35 #[.slice A n cap] w fun e w' => e = .returned (.slice A n cap) ∧ Below w.heap.size w w' := by
  have d1 : decide ((n : Int) < 2) = true := decide_eq_true (by omega)
  have d2 : decide (n < 2) = true := decide_eq_true h
  clear h
  go_enter Try.func35, Try.ntmps35
  go_wp2_with fail
  go_ret
  exact ⟨rfl, Below.refl _ _⟩
structure OI (g : Nat) (L : List St) (w : World) (p : Nat) (wr : World) : Prop where
  b : Below w.heap.size w wr
  le : p + 1 ≤ L.length
  ne : ∀ i, 0 < i → i < p + 1 → L.getD i (0, 0) ≠ L.getD (i - 1) (0, 0)
/-- Behind the first pair of alike ones: the first i elements are done. -/
structure II (g base : Nat) (L : List St) (w : World) (i k : Nat) (wr : World) : Prop where
  b : Below base w wr
  bs : base ≤ w.heap.size
  sz : w.heap.size ≤ wr.heap.size
  le : i ≤ L.length
  ke : k = (cptN (0, 0) L i).length
  lt : k < i
  row : Row g (cptN (0, 0) L i ++ L.drop k) wr
theorem sz_setCells (g : Nat) : ∀ (vs : List Value) (o : Nat) (w : World), (w.setCells g o vs).heap.size = w.heap.size
  | [], _, _ => rfl
  | v :: vs, o, w => by rw [World.setCells, sz_setCells g vs]; simp
theorem II.at_ {g base : Nat} {L : List St} {w wr : World} {i k : Nat} (h : II g base L w i k wr) (t : Nat) (ht : k ≤ t) (hl : t < L.length) : ∀ j v, (cS (L.getD t (0, 0))).toList[j]? = some v → wr.cell? (Addr.add ⟨g, t * 2, none⟩ j) = some v := by
  have hc := h.row.cell t (by rw [List.length_append, List.length_drop, ← h.ke]; omega)
  have e : (cptN (0, 0) L i ++ L.drop k).getD t (0, 0) = L.getD t (0, 0) := by
    rw [List.getD_eq_getElem?_getD, List.getElem?_append_right (by rw [← h.ke]; exact ht), List.getElem?_drop, ← h.ke, show k + (t - k) = t by omega, List.getD_eq_getElem?_getD]
  rw [e] at hc
  exact hc
theorem II.below {g base : Nat} {L : List St} {w wr wd : World} {i k : Nat} (h : II g base L w i k wr) (hb : Below wr.heap.size wr wd) : II g base L w i k wd := by
  exact ⟨h.b.trans (hb.mono (Nat.le_trans h.bs h.sz)), h.bs, Nat.le_trans h.sz hb.size, h.le, h.ke, h.lt, h.row.below hb⟩
theorem II.skip {g base : Nat} {L : List St} {w wr wd : World} {i k : Nat} (h : II g base L w i k wr) (hb : Below wr.heap.size wr wd) (hi : i < L.length) (he : L.getD i (0, 0) = L.getD (i - 1) (0, 0)) : II g base L w (i + 1) k wd := by
  have h2 := h.below hb
  have e : cptN (0, 0) L (i + 1) = cptN (0, 0) L i := by
    rw [cptN_succ, if_neg]
    rintro (e | e)
    · have := h.lt; omega
    · exact e he
  exact ⟨h2.b, h2.bs, h2.sz, hi, by rw [e]; exact h2.ke, by have := h2.lt; omega, by rw [e]; exact h2.row⟩
theorem II.blk {g base : Nat} {L : List St} {w wr : World} {i k : Nat} (h : II g base L w i k wr) : ∃ cur, wr.heap[g]? = some (.cells cur 58 (0, 0)) ∧ k * 2 + 2 ≤ cur.size := by
  obtain ⟨cur, h1, h2, h3⟩ := h.row.blk
  refine ⟨cur, h1, ?_⟩
  rw [List.length_append, List.length_drop, ← h.ke] at h2
  have := h.lt; have := h.le; omega
theorem II.put {g base : Nat} {L : List St} {w wr : World} {i k : Nat} {x : St} (h : II g base L w i k wr) (hg : base ≤ g) (hi : i < L.length) (he : ¬ L.getD i (0, 0) = L.getD (i - 1) (0, 0)) (hx : L.getD i (0, 0) = x) : II g base L w (i + 1) (k + 1) (wr.setCells g (k * 2) (cS x).toList) := by
  have e : cptN (0, 0) L (i + 1) = cptN (0, 0) L i ++ [x] := by rw [cptN_succ, if_pos (.inr he), hx]
  have hk : k < L.length := by have := h.lt; omega
  refine ⟨below_setCells hg _ _ _ h.b, h.bs, by rw [sz_setCells]; exact h.sz, hi, by rw [e, List.length_append, ← h.ke]; rfl, by have := h.lt; omega, ?_⟩
  have hr := h.row.set k x (by rw [List.length_append, List.length_drop, ← h.ke]; omega)
  have e2 : (cptN (0, 0) L i ++ L.drop k).set k x = cptN (0, 0) L (i + 1) ++ L.drop (k + 1) := by
    rw [List.set_append_right _ _ (by rw [← h.ke]; exact Nat.le_refl _), ← h.ke, Nat.sub_self, List.drop_eq_getElem_cons hk, List.set_cons_zero, e, List.append_assoc]
    rfl
  rw [e2] at hr
  exact hr
set_option maxRecDepth 100000 in
set_option maxHeartbeats 4000000 in
theorem Compact_calls (g cap base : Nat) (L : List St) (w : World) (h : Row g L w) (hc : L.length ≤ cap) (h40 : L.length ≤ 40) (h2 : 2 ≤ L.length) (hg : base ≤ g) (hbs : base ≤ w.heap.size) :
    Calls Try.prog 35 #[.slice (some ⟨g, 0, none⟩) L.length cap] w fun e w' => ∃ cp, e = .returned (.slice (some ⟨g, 0, none⟩) (cptN (0, 0) L L.length).length cp) ∧ (cptN (0, 0) L L.length).length ≤ cp ∧ Row g (cptN (0, 0) L L.length) w' ∧ Below base w w' := by
  have HROW := Aside0.mk h
  have HC := Aside0.mk (And.intro hc (And.intro hg hbs))
  have H40 := Aside0.mk (And.intro h40 h2)
  have d1 : decide ((L.length : Int) < 2) = false := decide_eq_false (by omega)
  have d2 : decide (L.length < 2) = false := decide_eq_false (by omega)
  have H0 : Aside0 (OI g L w 0 w) := ⟨⟨Below.refl _ _, by omega, fun i h0 h1 => absurd h1 (by omega)⟩⟩
  clear h hc h40 h2 hg hbs
  go_enter Try.func35, Try.ntmps35
  go_upto_region 4 with fail
  go_loopw [3] (fun i wr => ∃ p : Nat, i = .int .i64 ((p : Int) + 1) ∧ Aside0 (OI g L w p wr)) (fun i _ => L.length - (intOf i).toNat)
  case atStart => exact ⟨0, rfl, H0⟩
  case round =>
    clear H0 d1 d2
    obtain ⟨p, rfl, hS⟩ := hrel
    by_cases h1 : p + 1 < L.length
    · have H1 := Aside0.mk h1
      have d1 : decide ((p : Int) + 1 < (L.length : Int)) = true := decide_eq_true (by omega)
      have hx0 : (0 : Int) ≤ (p : Int) + 1 := by omega
      have hx1 : (p : Int) + 1 < (L.length : Int) := by omega
      have hy0 : (0 : Int) ≤ (p : Int) := by omega
      have hy1 : (p : Int) < (L.length : Int) := by omega
      have ht1 : ((p : Int) + 1).toNat = p + 1 := by omega
      have hw0 : wrap64 (p : Int) = (p : Int) := by have := H40.out.1; unfold wrap64; omega
      have hw1 : wrap64 ((p : Int) + 1) = (p : Int) + 1 := by have := H40.out.1; unfold wrap64; omega
      have hw2 : wrap64 ((p : Int) + 1 + 1) = (p : Int) + 1 + 1 := by have := H40.out.1; unfold wrap64; omega
      have hw4 : IntKind.i64.wrap (p : Int) = (p : Int) := by have := H40.out.1; simp [IntKind.wrap, IntKind.signed, IntKind.bits]; omega
      have hw3 : wrap64 ((p : Int) + 1 - 1) = (p : Int) := by have := H40.out.1; unfold wrap64; omega
      have HH : Aside0 (L.length - ((p : Int) + 1 + 1).toNat < L.length - ((p : Int) + 1).toNat) := ⟨by omega⟩
      obtain ⟨x, hx⟩ : ∃ x, L.getD (p + 1) (0, 0) = x := ⟨_, rfl⟩
      obtain ⟨y, hy⟩ : ∃ y, L.getD p (0, 0) = y := ⟨_, rfl⟩
      have HX := Aside0.mk ((HROW.out.below hS.out.b).cell (p + 1) h1)
      have HY := Aside0.mk ((HROW.out.below hS.out.b).cell p (by omega))
      rw [hx] at HX
      rw [hy] at HY
      have HXY := Aside0.mk (And.intro hx hy)
      clear hx hy h1
      go_upto_region 6 with fail
      by_cases hyx : x = y
      · have HYX := Aside0.mk hyx
        have e1 : (x.1 == y.1) = true := by rw [hyx]; simp
        have e2 : (x.2 == y.2) = true := by rw [hyx]; simp
        clear hyx
        have hu58 := Try.underlying58
        refine wp_region_held_drew (S := fun w' => Below wr.heap.size wr w') (by kernel_rfl) (pw_below_drewN (Below.refl _ _) 1) (fun hHeld => ?_)
        generalize wr.drew = wd at hHeld ⊢
        refine tk (i := 0) (v := _) 16 rfl (Or.inl ⟨by rfl, fun w' hW => by go_simp; try (first | with_reducible rfl | rfl)⟩) hHeld ?_
        try simp only [putL, putN, List.set]
        refine tk (i := 1) (v := _) 17 rfl (Or.inl ⟨by rfl, fun w' hW => by go_simp; try (first | with_reducible rfl | rfl)⟩) hHeld ?_
        try simp only [putL, putN, List.set]
        refine tk (i := 4) (v := _) 20 rfl (Or.inl ⟨by rfl, fun w' hW => by go_simp; try (first | with_reducible rfl | rfl)⟩) hHeld ?_
        try simp only [putL, putN, List.set]
        refine tk (i := 5) (v := _) 21 rfl (Or.inl ⟨by rfl, fun w' hW => by go_simp; try (first | with_reducible rfl | rfl)⟩) hHeld ?_
        try simp only [putL, putN, List.set]
        refine tk (i := 6) (v := _) 22 rfl (Or.inl ⟨by rfl, fun w' hW => by go_simp; try (first | with_reducible rfl | rfl)⟩) hHeld ?_
        try simp only [putL, putN, List.set]
        refine tk (i := 2) (v := _) 18 rfl (Or.inl ⟨by rfl, fun w' hW => by go_simp; try (first | with_reducible rfl | rfl)⟩) hHeld ?_
        try simp only [putL, putN, List.set]
        refine tk (i := 7) (v := _) 23 rfl (Or.inl ⟨by rfl, fun w' hW => by go_simp; try (first | with_reducible rfl | rfl)⟩) hHeld ?_
        try simp only [putL, putN, List.set]
        refine tk (i := 3) (v := _) 19 rfl (yields_any (by rfl) 58 (.tmp 18) rfl (⟨g, (p + 1) * 2, none⟩) rfl (cS x) _ (fun w' hW j v hj => pw_cell_below hW (HX.out j v hj)) Try.underlying58 rfl (by kernel_rfl)) hHeld ?_
        try simp only [putL, putN, List.set]
        refine tk (i := 8) (v := _) 24 rfl (yields_any (by rfl) 58 (.tmp 23) rfl (⟨g, p * 2, none⟩) rfl (cS y) _ (fun w' hW j v hj => pw_cell_below hW (HY.out j v hj)) Try.underlying58 rfl (by kernel_rfl)) hHeld ?_
        try simp only [putL, putN, List.set]
        refine tk (i := 9) (v := .bool true) 25 rfl (Or.inl ⟨by rfl, fun w' hW => by go_simp; try (first | with_reducible rfl | rfl | (simp [e1]; done) | (simp [e1, e2]; done) | exact hn2)⟩) hHeld ?_
        try simp only [putL, putN, List.set]
        refine wpAnyH_done (by kernel_rfl) ?_ _
        have HBD := Aside0.mk (hS.out.b.trans (hHeld.mono hS.out.b.size))
        clear hHeld
        have f0 : ¬ cap = p + 1 := by have := HC.out.1; have := H1.out; omega
        have f1 : p + 1 ≤ cap := by have := HC.out.1; have := H1.out; omega
        have f2 : p + 1 ≤ L.length := by have := H1.out; omega
        have f3 : ((p : Int) + 1 ≤ (cap : Int)) := by omega
        have f4 : ((p : Int) + 1 ≤ (L.length : Int)) := by omega
        have c1 : cptN (0, 0) L (p + 1) = L.take (p + 1) := cptN_take (0, 0) L (p + 1) (by omega) (fun i h0 hi => hS.out.ne i h0 hi)
        have c2 : cptN (0, 0) L (p + 2) = L.take (p + 1) := by
          rw [cptN_succ, if_neg, c1]
          rintro (e | e)
          · omega
          · rw [show p + 1 - 1 = p by omega, HXY.out.1, HXY.out.2] at e
            exact e HYX.out
        have HII : Aside0 (II g base L w (p + 2) (p + 1) wd) := ⟨⟨HBD.out.mono HC.out.2.2, HC.out.2.2, HBD.out.size, by have := H1.out; omega, by rw [c2, List.length_take]; omega, by omega, by rw [c2, List.take_append_drop]; exact HROW.out.below HBD.out⟩⟩
        clear c1 c2
        obtain ⟨N, hN⟩ : ∃ N, N = L.length - (p + 1) := ⟨_, rfl⟩
        have HN : Aside0 (N + (p + 1) = L.length) := ⟨by omega⟩
        obtain ⟨c4, hc4⟩ : ∃ c4, c4 = cap - (p + 1) := ⟨_, rfl⟩
        go_upto_region 9 with fail
        rw [← hN, ← hc4]
        clear hN hc4 f0 f1 f2 f3 f4 e1 e2 d1 hx0 hx1 hy0 hy1 ht1 hw0 hw1 hw2 hw4 hw3
        go_loopw [3, 5] (fun k i wr2 => ∃ kn jn : Nat, k = .int .i64 (kn : Int) ∧ i = .int .i64 ((jn : Int) + 1) ∧ Aside0 (II g base L w (p + jn + 2) kn wr2)) (fun _ i _ => N - (intOf i).toNat)
        case atStart => exact ⟨p + 1, 0, rfl, rfl, HII⟩
        case round =>
          clear HII
          obtain ⟨kn, jn, rfl, rfl, hS2⟩ := hrel
          have HKL : Aside0 (kn < 40 ∧ jn < 40) := ⟨by have := hS2.out.lt; have := hS2.out.le; have := H40.out.1; omega⟩
          by_cases g1 : jn + 1 < N
          · have G1 := Aside0.mk g1
            have d1 : decide ((jn : Int) + 1 < (N : Int)) = true := decide_eq_true (by omega)
            have hx0 : (0 : Int) ≤ (jn : Int) + 1 := by omega
            have hx1 : (jn : Int) + 1 < (N : Int) := by omega
            have hy0 : (0 : Int) ≤ (jn : Int) := by omega
            have hy1 : (jn : Int) < (N : Int) := by omega
            have ht1 : ((jn : Int) + 1).toNat = jn + 1 := by omega
            have hw0 : wrap64 (jn : Int) = (jn : Int) := by have := HKL.out; unfold wrap64; omega
            have hw4 : IntKind.i64.wrap (jn : Int) = (jn : Int) := by have := HKL.out; simp [IntKind.wrap, IntKind.signed, IntKind.bits]; omega
            have hw1 : wrap64 ((jn : Int) + 1) = (jn : Int) + 1 := by have := HKL.out; unfold wrap64; omega
            have hw2 : wrap64 ((jn : Int) + 1 + 1) = (jn : Int) + 1 + 1 := by have := HKL.out; unfold wrap64; omega
            have hw3 : wrap64 ((jn : Int) + 1 - 1) = (jn : Int) := by have := HKL.out; unfold wrap64; omega
            have hw5 : wrap64 ((kn : Int) + 1) = (kn : Int) + 1 := by have := HKL.out; unfold wrap64; omega
            have HH : Aside0 (N - ((jn : Int) + 1 + 1).toNat < N - ((jn : Int) + 1).toNat) := ⟨by omega⟩
            obtain ⟨x, hx⟩ : ∃ x, L.getD (p + jn + 2) (0, 0) = x := ⟨_, rfl⟩
            obtain ⟨y, hy⟩ : ∃ y, L.getD (p + jn + 1) (0, 0) = y := ⟨_, rfl⟩
            have hkl : p + jn + 2 < L.length := by have := HN.out; omega
            have HX := Aside0.mk (hS2.out.at_ (p + jn + 2) (by have := hS2.out.lt; omega) hkl)
            have HY := Aside0.mk (hS2.out.at_ (p + jn + 1) (by have := hS2.out.lt; omega) (by omega))
            rw [hx, show (p + jn + 2) * 2 = (p + 1) * 2 + (jn + 1) * 2 by omega] at HX
            rw [hy, show (p + jn + 1) * 2 = (p + 1) * 2 + jn * 2 by omega] at HY
            have HXY2 := Aside0.mk (And.intro hx (And.intro hy hkl))
            clear hx hy g1 hkl
            go_upto_region 11 with fail
            have hu58 := Try.underlying58
            by_cases hyx : x = y
            · have HYX := Aside0.mk hyx
              have e1 : (x.1 == y.1) = true := by rw [hyx]; simp
              have e2 : (x.2 == y.2) = true := by rw [hyx]; simp
              clear hyx
              refine wp_region_held_drew (S := fun w' => Below wr.heap.size wr w') (by kernel_rfl) (pw_below_drewN (Below.refl _ _) 1) (fun hHeld => ?_)
              generalize wr.drew = wd at hHeld ⊢
              refine tk (i := 0) (v := _) 35 rfl (Or.inl ⟨by rfl, fun w' hW => by go_simp; try (first | with_reducible rfl | rfl)⟩) hHeld ?_
              try simp only [putL, putN, List.set]
              refine tk (i := 1) (v := _) 36 rfl (Or.inl ⟨by rfl, fun w' hW => by go_simp; try (first | with_reducible rfl | rfl)⟩) hHeld ?_
              try simp only [putL, putN, List.set]
              refine tk (i := 4) (v := _) 39 rfl (Or.inl ⟨by rfl, fun w' hW => by go_simp; try (first | with_reducible rfl | rfl)⟩) hHeld ?_
              try simp only [putL, putN, List.set]
              refine tk (i := 5) (v := _) 40 rfl (Or.inl ⟨by rfl, fun w' hW => by go_simp; try (first | with_reducible rfl | rfl)⟩) hHeld ?_
              try simp only [putL, putN, List.set]
              refine tk (i := 6) (v := _) 41 rfl (Or.inl ⟨by rfl, fun w' hW => by go_simp; try (first | with_reducible rfl | rfl)⟩) hHeld ?_
              try simp only [putL, putN, List.set]
              refine tk (i := 2) (v := _) 37 rfl (Or.inl ⟨by rfl, fun w' hW => by go_simp; try (first | with_reducible rfl | rfl)⟩) hHeld ?_
              try simp only [putL, putN, List.set]
              refine tk (i := 7) (v := _) 42 rfl (Or.inl ⟨by rfl, fun w' hW => by go_simp; try (first | with_reducible rfl | rfl)⟩) hHeld ?_
              try simp only [putL, putN, List.set]
              refine tk (i := 3) (v := _) 38 rfl (yields_any (by rfl) 58 (.tmp 37) rfl (⟨g, (p + 1) * 2 + (jn + 1) * 2, none⟩) rfl (cS x) _ (fun w' hW j v hj => pw_cell_below hW (HX.out j v hj)) Try.underlying58 rfl (by kernel_rfl)) hHeld ?_
              try simp only [putL, putN, List.set]
              refine tk (i := 8) (v := _) 43 rfl (yields_any (by rfl) 58 (.tmp 42) rfl (⟨g, (p + 1) * 2 + jn * 2, none⟩) rfl (cS y) _ (fun w' hW j v hj => pw_cell_below hW (HY.out j v hj)) Try.underlying58 rfl (by kernel_rfl)) hHeld ?_
              try simp only [putL, putN, List.set]
              refine tk (i := 9) (v := .bool false) 44 rfl (Or.inl ⟨by rfl, fun w' hW => by go_simp; try (first | with_reducible rfl | rfl | (simp [e1]; done) | (simp [e1, e2]; done) | exact hn2)⟩) hHeld ?_
              try simp only [putL, putN, List.set]
              refine wpAnyH_done (by kernel_rfl) ?_ _
              have HBD := Aside0.mk hHeld
              clear hHeld
              go_wp2_with fail
              refine ⟨⟨kn, jn + 1, rfl, by rw [hw2]; rfl, ⟨II.skip hS2.out HBD.out HXY2.out.2.2 (by have e := HXY2.out; rw [show p + (jn + 1) + 1 = p + jn + 2 by omega, e.1, show p + jn + 2 - 1 = p + jn + 1 by omega, e.2.1]; exact HYX.out)⟩⟩, by rw [hw2]; exact HH.out⟩
            · have HYX := Aside0.mk hyx
              have hn2 : x.1 = y.1 → ¬ x.2 = y.2 := fun h1 h2 => hyx (Prod.ext h1 h2)
              have e1 : (x.1 == y.1 && x.2 == y.2) = false := by
                obtain ⟨y1, y2⟩ := y
                obtain ⟨x1, x2⟩ := x
                simp only [Prod.mk.injEq, not_and] at hyx
                by_cases e : x1 = y1
                · have := hyx e; simp [this]
                · simp [e]
              clear hyx
              refine wp_region_held_drew (S := fun w' => Below wr.heap.size wr w') (by kernel_rfl) (pw_below_drewN (Below.refl _ _) 1) (fun hHeld => ?_)
              generalize wr.drew = wd at hHeld ⊢
              refine tk (i := 0) (v := _) 35 rfl (Or.inl ⟨by rfl, fun w' hW => by go_simp; try (first | with_reducible rfl | rfl)⟩) hHeld ?_
              try simp only [putL, putN, List.set]
              refine tk (i := 1) (v := _) 36 rfl (Or.inl ⟨by rfl, fun w' hW => by go_simp; try (first | with_reducible rfl | rfl)⟩) hHeld ?_
              try simp only [putL, putN, List.set]
              refine tk (i := 4) (v := _) 39 rfl (Or.inl ⟨by rfl, fun w' hW => by go_simp; try (first | with_reducible rfl | rfl)⟩) hHeld ?_
              try simp only [putL, putN, List.set]
              refine tk (i := 5) (v := _) 40 rfl (Or.inl ⟨by rfl, fun w' hW => by go_simp; try (first | with_reducible rfl | rfl)⟩) hHeld ?_
              try simp only [putL, putN, List.set]
              refine tk (i := 6) (v := _) 41 rfl (Or.inl ⟨by rfl, fun w' hW => by go_simp; try (first | with_reducible rfl | rfl)⟩) hHeld ?_
              try simp only [putL, putN, List.set]
              refine tk (i := 2) (v := _) 37 rfl (Or.inl ⟨by rfl, fun w' hW => by go_simp; try (first | with_reducible rfl | rfl)⟩) hHeld ?_
              try simp only [putL, putN, List.set]
              refine tk (i := 7) (v := _) 42 rfl (Or.inl ⟨by rfl, fun w' hW => by go_simp; try (first | with_reducible rfl | rfl)⟩) hHeld ?_
              try simp only [putL, putN, List.set]
              refine tk (i := 3) (v := _) 38 rfl (yields_any (by rfl) 58 (.tmp 37) rfl (⟨g, (p + 1) * 2 + (jn + 1) * 2, none⟩) rfl (cS x) _ (fun w' hW j v hj => pw_cell_below hW (HX.out j v hj)) Try.underlying58 rfl (by kernel_rfl)) hHeld ?_
              try simp only [putL, putN, List.set]
              refine tk (i := 8) (v := _) 43 rfl (yields_any (by rfl) 58 (.tmp 42) rfl (⟨g, (p + 1) * 2 + jn * 2, none⟩) rfl (cS y) _ (fun w' hW j v hj => pw_cell_below hW (HY.out j v hj)) Try.underlying58 rfl (by kernel_rfl)) hHeld ?_
              try simp only [putL, putN, List.set]
              refine tk (i := 9) (v := .bool true) 44 rfl (Or.inl ⟨by rfl, fun w' hW => by go_simp; try (first | with_reducible rfl | rfl | (simp [e1]; done) | (simp [e1, e2]; done) | exact hn2)⟩) hHeld ?_
              try simp only [putL, putN, List.set]
              refine wpAnyH_done (by kernel_rfl) ?_ _
              have HBD := Aside0.mk hHeld
              have HS3 := Aside0.mk (II.below hS2.out hHeld)
              have HXD : Aside0 (∀ j v, (cS x).toList[j]? = some v → wd.cell? (Addr.add ⟨g, (p + 1) * 2 + (jn + 1) * 2, none⟩ j) = some v) := ⟨fun j v hj => pw_cell_below hHeld (HX.out j v hj)⟩
              clear hHeld
              obtain ⟨cur, hb, hz⟩ := HS3.out.blk
              have HCUR := Aside0.mk (And.intro hb hz)
              clear hb hz
              have hk0 : (0 : Int) ≤ (kn : Int) := by omega
              have hk1 : (kn : Int) < (L.length : Int) := by have := HS3.out.lt; have := HS3.out.le; omega
              have hk2 : kn < L.length := by omega
              go_wp2_with (first | ((with_reducible refine gate_ (.load 58 (.tmp 49)) rfl ?_); refine load_any rfl 58 (.tmp 49) rfl (⟨g, (p + 1) * 2 + (jn + 1) * 2, none⟩) rfl (cS x) _ HXD.out Try.underlying58 rfl (by kernel_rfl) ?_) | ((with_reducible refine gate_store (p := 51) (t := 58) rfl ?_); refine store_blk rfl 58 (.tmp 51) (.tmp 50) rfl g (kn * 2) (cS x) _ 58 rfl rfl HCUR.out.1 (by have := HCUR.out.2; simp; omega) (by kernel_rfl) (by simp [Value.oneCell']) ?_; intro w3 e3 hE3; have E3 := Aside0.mk e3; clear e3 hE3))
              refine ⟨⟨kn + 1, jn + 1, by rw [hw5]; rfl, by rw [hw2]; rfl, ⟨?_⟩⟩, by rw [hw2]; exact HH.out⟩
              rw [E3.out]
              exact II.put HS3.out HC.out.2.1 HXY2.out.2.2 (by have e := HXY2.out; rw [show p + (jn + 1) + 1 = p + jn + 2 by omega, e.1, show p + jn + 2 - 1 = p + jn + 1 by omega, e.2.1]; exact HYX.out) HXY2.out.1
          · have d1 : decide ((jn : Int) + 1 < (N : Int)) = false := decide_eq_false (by omega)
            have hp : p + jn + 2 = L.length := by have := hS2.out.le; have := HN.out; omega
            have HP := Aside0.mk hp
            have f0 : ¬ L.length = kn := by have := hS2.out.lt; omega
            have f1 : kn ≤ L.length := by have := hS2.out.lt; omega
            have f2 : kn ≤ cap := by have := HC.out.1; omega
            have f3 : ((kn : Int) ≤ (cap : Int)) := by omega
            have f4 : ((kn : Int) ≤ (L.length : Int)) := by omega
            have f5 : ¬ cap = kn := by have := HC.out.1; omega
            have f6 : (0 : Int) ≤ (kn : Int) := by omega
            obtain ⟨cur, hb, hz, _⟩ := hS2.out.row.blk
            have hz2 : L.length * 2 ≤ cur.size := by
              rw [List.length_append, List.length_drop, ← hS2.out.ke] at hz
              have := hS2.out.lt; omega
            obtain ⟨zs, hcl⟩ := run_clear2 wr 0 g (kn * 2) (L.length - kn) (cap - kn) (by omega) (fun j hj => (there_of_block hb (kn * 2) ((L.length - kn) * 2) (by omega) j hj).1) (fun j hj => (there_of_block hb (kn * 2) ((L.length - kn) * 2) (by omega) j hj).2)
            clear g1 hp hb hz hz2
            have HE : Aside0 (kn = (cptN (0, 0) L L.length).length ∧ Row g (cptN (0, 0) L L.length) (wr.setCells g (kn * 2) zs) ∧ Below base w (wr.setCells g (kn * 2) zs)) := ⟨by
              have h := hS2.out
              have hr := h.row.pre zs
              rw [← h.ke] at hr
              have e1 := h.ke
              rw [HP.out] at hr e1
              exact ⟨e1, hr, below_setCells HC.out.2.1 _ _ _ h.b⟩⟩
            go_wp2_with fail
            go_ret
            exact ⟨cap, by rw [← HE.out.1]; rfl, by rw [← HE.out.1]; omega, HE.out.2.1, HE.out.2.2⟩
      · have HYX := Aside0.mk hyx
        have hn2 : x.1 = y.1 → ¬ x.2 = y.2 := fun h1 h2 => hyx (Prod.ext h1 h2)
        have e1 : (x.1 == y.1 && x.2 == y.2) = false := by
          obtain ⟨y1, y2⟩ := y
          obtain ⟨x1, x2⟩ := x
          simp only [Prod.mk.injEq, not_and] at hyx
          by_cases e : x1 = y1
          · have := hyx e; simp [this]
          · simp [e]
        clear hyx
        have hu58 := Try.underlying58
        refine wp_region_held_drew (S := fun w' => Below wr.heap.size wr w') (by kernel_rfl) (pw_below_drewN (Below.refl _ _) 1) (fun hHeld => ?_)
        generalize wr.drew = wd at hHeld ⊢
        refine tk (i := 0) (v := _) 16 rfl (Or.inl ⟨by rfl, fun w' hW => by go_simp; try (first | with_reducible rfl | rfl)⟩) hHeld ?_
        try simp only [putL, putN, List.set]
        refine tk (i := 1) (v := _) 17 rfl (Or.inl ⟨by rfl, fun w' hW => by go_simp; try (first | with_reducible rfl | rfl)⟩) hHeld ?_
        try simp only [putL, putN, List.set]
        refine tk (i := 4) (v := _) 20 rfl (Or.inl ⟨by rfl, fun w' hW => by go_simp; try (first | with_reducible rfl | rfl)⟩) hHeld ?_
        try simp only [putL, putN, List.set]
        refine tk (i := 5) (v := _) 21 rfl (Or.inl ⟨by rfl, fun w' hW => by go_simp; try (first | with_reducible rfl | rfl)⟩) hHeld ?_
        try simp only [putL, putN, List.set]
        refine tk (i := 6) (v := _) 22 rfl (Or.inl ⟨by rfl, fun w' hW => by go_simp; try (first | with_reducible rfl | rfl)⟩) hHeld ?_
        try simp only [putL, putN, List.set]
        refine tk (i := 2) (v := _) 18 rfl (Or.inl ⟨by rfl, fun w' hW => by go_simp; try (first | with_reducible rfl | rfl)⟩) hHeld ?_
        try simp only [putL, putN, List.set]
        refine tk (i := 7) (v := _) 23 rfl (Or.inl ⟨by rfl, fun w' hW => by go_simp; try (first | with_reducible rfl | rfl)⟩) hHeld ?_
        try simp only [putL, putN, List.set]
        refine tk (i := 3) (v := _) 19 rfl (yields_any (by rfl) 58 (.tmp 18) rfl (⟨g, (p + 1) * 2, none⟩) rfl (cS x) _ (fun w' hW j v hj => pw_cell_below hW (HX.out j v hj)) Try.underlying58 rfl (by kernel_rfl)) hHeld ?_
        try simp only [putL, putN, List.set]
        refine tk (i := 8) (v := _) 24 rfl (yields_any (by rfl) 58 (.tmp 23) rfl (⟨g, p * 2, none⟩) rfl (cS y) _ (fun w' hW j v hj => pw_cell_below hW (HY.out j v hj)) Try.underlying58 rfl (by kernel_rfl)) hHeld ?_
        try simp only [putL, putN, List.set]
        refine tk (i := 9) (v := .bool false) 25 rfl (Or.inl ⟨by rfl, fun w' hW => by go_simp; try (first | with_reducible rfl | rfl | (simp [e1]; done) | (simp [e1, e2]; done) | exact hn2)⟩) hHeld ?_
        try simp only [putL, putN, List.set]
        refine wpAnyH_done (by kernel_rfl) ?_ _
        have HBD := Aside0.mk (hS.out.b.trans (hHeld.mono hS.out.b.size))
        clear hHeld
        go_wp2_with fail
        refine ⟨⟨p + 1, by rw [hw2]; rfl, ⟨HBD.out, by have := H1.out; omega, fun i h0 h1 => ?_⟩⟩, by rw [hw2]; exact HH.out⟩
        by_cases e : i = p + 1
        · subst e
          rw [HXY.out.1, show p + 1 - 1 = p by omega, HXY.out.2]
          exact HYX.out
        · exact hS.out.ne i h0 (by omega)
    · have d1 : decide ((p : Int) + 1 < (L.length : Int)) = false := decide_eq_false (by omega)
      have hp : p + 1 = L.length := by have := hS.out.le; omega
      have hall : cptN (0, 0) L L.length = L := by
        have := cptN_take (0, 0) L L.length (Nat.le_refl _) (fun i h0 hi => hS.out.ne i h0 (by omega))
        rw [List.take_length] at this
        exact this
      have HALL := Aside0.mk hall
      clear h1 hp hall
      go_wp2_with fail
      go_ret
      exact ⟨cap, by rw [HALL.out]; rfl, by rw [HALL.out]; exact HC.out.1, by rw [HALL.out]; exact HROW.out.below hS.out.b, hS.out.b.mono HC.out.2.2⟩
end Go.Proofs.Ytgklphcnkplkoaa.QSt
