/- OrderStamps: the document's Sorted, walked by hand. -/
import Derived.Test.YtgklphcnkplkoaaBOr
namespace Go.Proofs.Ytgklphcnkplkoaa.QSt
open Go.RowKit Go.Proofs.YtgklphcnkplkoaaW.PrintWords Go.Proofs.YtgklphcnkplkoaaW.PrintLast Go.Proofs.YtgklphcnkplkoaaW.PrintMore
open Go.Proofs.Ytgklphcnkplkoaa.SK (St enc flat flat_len flat_get)
set_option linter.unusedVariables false
set_option linter.unusedSimpArgs false
theorem C_sub2 {w : World} {ad : Addr} {n : Nat} {L : List St} (h : Kd.C kS w (some ad) n L) (i k : Nat) (hk : i + k ≤ L.length) : Kd.C kS w (some (ad.add (i * 2))) k ((L.drop i).take k) := by
  obtain ⟨h1, h2, h3⟩ := h
  refine ⟨by rw [List.length_take, List.length_drop]; omega, by omega, fun hn => ⟨_, rfl, fun j p hp => ?_⟩⟩
  obtain ⟨ad', e, hc⟩ := h3 (by omega)
  injection e with e
  subst e
  rw [List.getElem?_take] at hp
  split at hp
  · rw [List.getElem?_drop] at hp
    obtain ⟨c, g1, g2, g3⟩ := hc (i + j) p hp
    refine ⟨c, g1, g2, fun q u hq => ?_⟩
    rw [add_add', show i * 2 + (j * kS.sz + q) = (i + j) * kS.sz + q by show i * 2 + (j * 2 + q) = (i + j) * 2 + q; omega]
    exact g3 q u hq
  · cases hp
theorem C_take2 {w : World} {A : Option Addr} {n : Nat} {L : List St} (h : Kd.C kS w A n L) (k : Nat) (hk : k ≤ L.length) : Kd.C kS w A k (L.take k) := by
  obtain ⟨h1, h2, h3⟩ := h
  refine ⟨by rw [List.length_take]; omega, by omega, fun hn => ?_⟩
  obtain ⟨ad', e, hc⟩ := h3 (by omega)
  refine ⟨ad', e, fun j p hp => hc j p ?_⟩
  rw [List.getElem?_take] at hp
  split at hp
  · exact hp
  · cases hp
theorem C_zero {w0 w : World} {b : Nat} (_h : Below b w0 w) (A : Option Addr) : Kd.C kS w A 0 [] := ⟨rfl, by omega, fun h => absurd h (by omega)⟩
theorem K_M {w : World} {base : Nat} {ok : Nat → Prop} (x : St) (cs : List Value) (h : kS.K w x cs) : kS.M w base ok x cs := by
  rw [kS_open h]
  exact kS_mkM _ _ _ _
theorem one_C {w : World} {g : Nat} {x : St} (h : w.heap[g]? = some (.cells (cS x) 29 (0, 0))) : Kd.C kS w (some ⟨g, 0, none⟩) 1 [x] := by
  refine ⟨rfl, by omega, fun _ => ⟨_, rfl, fun j p hp => ?_⟩⟩
  match j, hp with
  | 0, hp =>
    obtain rfl : x = p := by simpa using hp
    refine ⟨[.int .i64 x.1, .int .i64 x.2], rfl, ⟨[.int .i64 x.1], [.int .i64 x.2], rfl, rfl, rfl⟩, fun q u hq => ?_⟩
    rw [show (0 : Nat) * kS.sz + q = q by omega, show (Addr.add ⟨g, 0, none⟩ q) = ⟨g, q, none⟩ by rw [Addr.add_mid, Nat.zero_add]]
    simp only [World.cell?, h, Option.isSome_none, Bool.false_eq_true, if_false]
    rw [← Array.getElem?_toList]
    exact hq
  | j + 1, hp => simp at hp
theorem R_empty (w : World) (base : Nat) (hb : base ≤ w.heap.size) : Kd.R kS 29 (w.alloc (.cells #[] 29)) base (fun _ => True) (.slice (some ⟨w.heap.size, 0, none⟩) 0 0) [] :=
  ⟨fun _ _ => trivial, [], ⟨rfl, .inr ⟨w.heap.size, 0, #[], rfl, hb, World.alloc_heap_new _ _, Nat.le_refl _, Nat.zero_le _, rfl, rfl⟩⟩, Reps.none _ _⟩
structure RI (w : World) (L : List St) (m : Nat) (v : Value) (T : List St) (wr : World) : Prop where
  b : Below w.heap.size w wr
  le : m ≤ L.length
  r : Kd.R kS 29 wr w.heap.size (fun _ => True) v T
  st : T.Pairwise ltS
  mem : ∀ x, x ∈ T ↔ x ∈ L.take m
  len : T.length ≤ m
theorem mem_step {L : List St} {m : Nat} (hm : m < L.length) {T : List St} (h : ∀ x, x ∈ T ↔ x ∈ L.take m) {T' : List St} (h' : ∀ y, y ∈ T' ↔ y ∈ T ∨ y = L.getD m (0, 0)) : ∀ x, x ∈ T' ↔ x ∈ L.take (m + 1) := by
  intro x
  rw [h', h, List.take_succ_eq_append_getElem hm, List.mem_append, List.mem_singleton, List.getD_eq_getElem?_getD, List.getElem?_eq_getElem hm]
  rfl
theorem insK_len (T : List St) (x : St) (k : Nat) (hk : k ≤ T.length) : (insK (0, 0) T x k).length ≤ T.length + 1 := by
  unfold insK
  split
  · rw [List.length_append, List.length_cons, List.length_take, List.length_drop]; omega
  · omega
set_option maxRecDepth 100000 in
set_option maxHeartbeats 4000000 in
theorem RSorted_calls (A : Option Addr) (c : Nat) (L : List St) (w : World) (hr : Kd.C kS w A L.length L) (hc : L.length ≤ c) (h40 : L.length ≤ 40) :
    Calls Try.prog 29 #[.slice A L.length c] w fun e w' => ∃ v T, e = .returned v ∧ Kd.R kS 29 w' w.heap.size (fun _ => True) v T ∧ T.Pairwise ltS ∧ (∀ x, x ∈ T ↔ x ∈ L) ∧ T.length ≤ L.length ∧ Below w.heap.size w w' := by
  have HR := Aside0.mk hr
  have H40 := Aside0.mk h40
  clear hr hc
  have H0 : Aside0 (RI w L 0 (.slice none 0 0) [] w) := ⟨⟨Below.refl _ _, Nat.zero_le _, Kd.R_nil _ _ _ _ _, List.Pairwise.nil, fun x => by simp, Nat.zero_le _⟩⟩
  go_enter Try.func29, Try.ntmps29
  go_upto_region 3 with fail
  go_loopw [3, 4] (fun o i wr => ∃ m : Nat, ∃ T, i = .int .i64 (m : Int) ∧ Aside0 (RI w L m o T wr)) (fun _ i _ => L.length - (intOf i).toNat)
  case atStart => exact ⟨0, [], rfl, H0⟩
  case round =>
    clear H0
    obtain ⟨m, T, rfl, hS⟩ := hrel
    obtain ⟨At, ct, eo, hct, hCt⟩ := Kd.R_reads hS.out.r
    by_cases h1 : m < L.length
    · have H1 := Aside0.mk h1
      have d1 : decide ((m : Int) < (L.length : Int)) = true := decide_eq_true (by omega)
      have d2 : decide (m < L.length) = true := decide_eq_true h1
      have hx0 : (0 : Int) ≤ (m : Int) := by omega
      have hx1 : (m : Int) < (L.length : Int) := by omega
      have hw : wrap64 ((m : Int) + 1) = (m : Int) + 1 := by have := H40.out; unfold wrap64; omega
      have HH : Aside0 (L.length - ((m : Int) + 1).toNat < L.length - ((m : Int)).toNat) := ⟨by omega⟩
      obtain ⟨ad, eA, hcell⟩ := st_at (Kd.C_below HR.out hS.out.b) m h1
      subst eA
      have hST : ∀ T', (∀ y, y ∈ T' ↔ y ∈ T ∨ y = L.getD m (0, 0)) → ∀ x, x ∈ T' ↔ x ∈ L.take (m + 1) := fun T' h' => mem_step h1 hS.out.mem h'
      generalize L.getD m (0, 0) = x at hcell hST
      have HX := Aside0.mk hcell
      have HST := Aside0.mk hST
      have HCT := Aside0.mk (And.intro hct hCt)
      have HTL : Aside0 (T.length ≤ 40) := ⟨by have := hS.out.len; have := H40.out; omega⟩
      subst eo
      clear hcell hST hct hCt h1
      obtain ⟨wo, hwo⟩ : ∃ q, q = wr := ⟨_, rfl⟩
      subst hwo
      have HI0 : Aside0 (0 ≤ T.length ∧ Below wo.heap.size wo wo ∧ ∀ i (hi : i < T.length), i < 0 → ltS T[i] x) := ⟨⟨Nat.zero_le _, Below.refl _ _, fun i _ h => absurd h (by omega)⟩⟩
      go_upto_region 6 with fail
      go_loopw [5] (fun i wr2 => ∃ j : Nat, i = .int .i64 (j : Int) ∧ Aside0 (j ≤ T.length ∧ Below wo.heap.size wo wr2 ∧ ∀ i (hi : i < T.length), i < j → ltS T[i] x)) (fun i _ => T.length - (intOf i).toNat)
      case atStart => exact ⟨0, rfl, HI0⟩
      case round =>
        clear HI0
        obtain ⟨j, rfl, hS2⟩ := hrel
        have HXR : Aside0 (∀ i v, (cS x).toList[i]? = some v → wr.cell? ((ad.add (m * 2)).add i) = some v) := ⟨fun i v hv => pw_cell_below hS2.out.2.1 (HX.out i v hv)⟩
        by_cases g1 : j < T.length
        · have G1 := Aside0.mk g1
          have d3 : decide ((j : Int) < (T.length : Int)) = true := decide_eq_true (by omega)
          have d4 : decide (j < T.length) = true := decide_eq_true g1
          have hy0 : (0 : Int) ≤ (j : Int) := by omega
          have hy1 : (j : Int) < (T.length : Int) := by omega
          have hwj : wrap64 ((j : Int) + 1) = (j : Int) + 1 := by have := HTL.out; unfold wrap64; omega
          have HHJ : Aside0 (T.length - ((j : Int) + 1).toNat < T.length - ((j : Int)).toNat) := ⟨by omega⟩
          obtain ⟨adT, eT, hcT⟩ := st_at (Kd.C_below HCT.out.2 hS2.out.2.1) j g1
          subst eT
          obtain ⟨y, hy⟩ : ∃ y, T.getD j (0, 0) = y := ⟨_, rfl⟩
          rw [hy] at hcT
          have HY := Aside0.mk hy
          have HTJ : Aside0 (∀ (hi : j < T.length), T[j] = y) := ⟨fun hi => by rw [← hy, List.getD_eq_getElem?_getD, List.getElem?_eq_getElem hi]; rfl⟩
          have HCTJ := Aside0.mk hcT
          obtain ⟨q, hq⟩ : ∃ q, cmpI y x = q := ⟨_, rfl⟩
          have HQ := Aside0.mk hq
          clear hy hcT hq g1
          by_cases hlt : q < 0
          · have HLT := Aside0.mk hlt
            have d5 : decide (q < 0) = true := decide_eq_true hlt
            clear hlt
            go_upto_region 6 with fail
            refine wp_region_held_drew (S := fun w' => Below wr.heap.size wr w') (by kernel_rfl) (pw_below_drewN (Below.refl _ _) 1) (fun hHeld => ?_)
            generalize wr.drew = wd at hHeld ⊢
            refine tk (i := 0) (v := _) 12 rfl (Or.inl ⟨by rfl, fun w' hW => by go_simp; try (first | with_reducible rfl | rfl)⟩) hHeld ?_
            try simp only [putL, putN, List.set]
            refine tk (i := 1) (v := _) 13 rfl (Or.inl ⟨by rfl, fun w' hW => by go_simp; try (first | with_reducible rfl | rfl)⟩) hHeld ?_
            try simp only [putL, putN, List.set]
            refine tk (i := 2) (v := _) 14 rfl (Or.inl ⟨by rfl, fun w' hW => by go_simp; try (first | with_reducible rfl | rfl)⟩) hHeld ?_
            try simp only [putL, putN, List.set]
            refine tk (i := 3) (v := _) 15 rfl (Or.inl ⟨by rfl, fun w' hW => by go_simp; try (first | with_reducible rfl | rfl)⟩) hHeld ?_
            try simp only [putL, putN, List.set]
            refine tk (i := 4) (v := _) 16 rfl (Or.inl ⟨by rfl, fun w' hW => by go_simp; try (first | with_reducible rfl | rfl)⟩) hHeld ?_
            try simp only [putL, putN, List.set]
            refine tk (i := 5) (v := _) 17 rfl (Or.inl ⟨by rfl, fun w' hW => by go_simp; try (first | with_reducible rfl | rfl)⟩) hHeld ?_
            try simp only [putL, putN, List.set]
            refine tk (i := 6) (v := _) 18 rfl (Or.inl ⟨by rfl, fun w' hW => by go_simp; try (first | with_reducible rfl | rfl)⟩) hHeld ?_
            try simp only [putL, putN, List.set]
            refine tk (i := 7) (v := _) 19 rfl (Or.inl ⟨by rfl, fun w' hW => by go_simp; try (first | with_reducible rfl | rfl)⟩) hHeld ?_
            try simp only [putL, putN, List.set]
            refine tk (i := 8) (v := _) 20 rfl (yields_any (by rfl) 29 (.tmp 19) rfl (adT.add (j * 2)) rfl (cS y) _ (fun w' hW j v hj => pw_cell_below hW (HCTJ.out j v hj)) Try.underlying29 rfl (by kernel_rfl)) hHeld ?_
            try simp only [putL, putN, List.set]
            refine tk (i := 9) (v := _) 21 rfl (Or.inl ⟨by rfl, fun w' hW => by go_simp; try (first | with_reducible rfl | rfl)⟩) hHeld ?_
            try simp only [putL, putN, List.set]
            refine tk (i := 10) (v := _) 22 rfl (Or.inl ⟨by rfl, fun w' hW => by go_simp; try (first | with_reducible rfl | rfl)⟩) hHeld ?_
            try simp only [putL, putN, List.set]
            refine tk (i := 11) (v := _) 23 rfl (Or.inl ⟨by rfl, fun w' hW => by go_simp; try (first | with_reducible rfl | rfl)⟩) hHeld ?_
            try simp only [putL, putN, List.set]
            refine tk (i := 12) (v := _) 24 rfl (yields_any (by rfl) 29 (.tmp 23) rfl (ad.add (m * 2)) rfl (cS x) _ (fun w' hW j v hj => pw_cell_below hW (HXR.out j v hj)) Try.underlying29 rfl (by kernel_rfl)) hHeld ?_
            try simp only [putL, putN, List.set]
            have N0 := Aside0.mk hHeld
            refine wpAnyH_ready (rs := [13]) (by kernel_rfl) (by simp) ?_
            refine AllReadyH.cons rfl (fun K hK => ?_) AllReadyH.nil
            go_simp
            go_wp2_with (first | (go_at_call 26; refine (rcmp_calls y x _).mono ?_; rintro e wc ⟨rfl, hb⟩; rw [HQ.out]; have NC := Aside0.mk (below_step N0.out hb); clear hb))
            clear hHeld
            refine hK.out _ _ NC.out (fun hHeld => ?_)
            clear hK K
            try simp only [putL, putN, List.set]
            refine tk (i := 14) (v := _) 26 rfl (Or.inl ⟨by rfl, fun w' hW => by go_simp; try (first | with_reducible rfl | rfl)⟩) hHeld ?_
            try simp only [putL, putN, List.set]
            refine tk (i := 15) (v := _) 27 rfl (Or.inl ⟨by rfl, fun w' hW => by go_simp; try (first | with_reducible rfl | rfl)⟩) hHeld ?_
            try simp only [putL, putN, List.set]
            refine wpAnyH_done (by kernel_rfl) ?_ _
            clear hHeld
            go_wp2_with fail
            refine ⟨⟨j + 1, by rw [hwj]; rfl, ⟨by have := G1.out; omega, hS2.out.2.1.trans (NC.out.mono hS2.out.2.1.size), fun i hi hij => ?_⟩⟩, by rw [hwj]; exact HHJ.out⟩
            by_cases e : i = j
            · subst e
              rw [HTJ.out hi]
              exact (cmpI_lt y x).1 (by rw [HQ.out]; exact HLT.out)
            · exact hS2.out.2.2 i hi (by omega)
          · have HLT := Aside0.mk hlt
            have d5 : decide (q < 0) = false := decide_eq_false hlt
            clear hlt
            go_upto_region 6 with fail
            refine wp_region_held_drew (S := fun w' => Below wr.heap.size wr w') (by kernel_rfl) (pw_below_drewN (Below.refl _ _) 1) (fun hHeld => ?_)
            generalize wr.drew = wd at hHeld ⊢
            refine tk (i := 0) (v := _) 12 rfl (Or.inl ⟨by rfl, fun w' hW => by go_simp; try (first | with_reducible rfl | rfl)⟩) hHeld ?_
            try simp only [putL, putN, List.set]
            refine tk (i := 1) (v := _) 13 rfl (Or.inl ⟨by rfl, fun w' hW => by go_simp; try (first | with_reducible rfl | rfl)⟩) hHeld ?_
            try simp only [putL, putN, List.set]
            refine tk (i := 2) (v := _) 14 rfl (Or.inl ⟨by rfl, fun w' hW => by go_simp; try (first | with_reducible rfl | rfl)⟩) hHeld ?_
            try simp only [putL, putN, List.set]
            refine tk (i := 3) (v := _) 15 rfl (Or.inl ⟨by rfl, fun w' hW => by go_simp; try (first | with_reducible rfl | rfl)⟩) hHeld ?_
            try simp only [putL, putN, List.set]
            refine tk (i := 4) (v := _) 16 rfl (Or.inl ⟨by rfl, fun w' hW => by go_simp; try (first | with_reducible rfl | rfl)⟩) hHeld ?_
            try simp only [putL, putN, List.set]
            refine tk (i := 5) (v := _) 17 rfl (Or.inl ⟨by rfl, fun w' hW => by go_simp; try (first | with_reducible rfl | rfl)⟩) hHeld ?_
            try simp only [putL, putN, List.set]
            refine tk (i := 6) (v := _) 18 rfl (Or.inl ⟨by rfl, fun w' hW => by go_simp; try (first | with_reducible rfl | rfl)⟩) hHeld ?_
            try simp only [putL, putN, List.set]
            refine tk (i := 7) (v := _) 19 rfl (Or.inl ⟨by rfl, fun w' hW => by go_simp; try (first | with_reducible rfl | rfl)⟩) hHeld ?_
            try simp only [putL, putN, List.set]
            refine tk (i := 8) (v := _) 20 rfl (yields_any (by rfl) 29 (.tmp 19) rfl (adT.add (j * 2)) rfl (cS y) _ (fun w' hW j v hj => pw_cell_below hW (HCTJ.out j v hj)) Try.underlying29 rfl (by kernel_rfl)) hHeld ?_
            try simp only [putL, putN, List.set]
            refine tk (i := 9) (v := _) 21 rfl (Or.inl ⟨by rfl, fun w' hW => by go_simp; try (first | with_reducible rfl | rfl)⟩) hHeld ?_
            try simp only [putL, putN, List.set]
            refine tk (i := 10) (v := _) 22 rfl (Or.inl ⟨by rfl, fun w' hW => by go_simp; try (first | with_reducible rfl | rfl)⟩) hHeld ?_
            try simp only [putL, putN, List.set]
            refine tk (i := 11) (v := _) 23 rfl (Or.inl ⟨by rfl, fun w' hW => by go_simp; try (first | with_reducible rfl | rfl)⟩) hHeld ?_
            try simp only [putL, putN, List.set]
            refine tk (i := 12) (v := _) 24 rfl (yields_any (by rfl) 29 (.tmp 23) rfl (ad.add (m * 2)) rfl (cS x) _ (fun w' hW j v hj => pw_cell_below hW (HXR.out j v hj)) Try.underlying29 rfl (by kernel_rfl)) hHeld ?_
            try simp only [putL, putN, List.set]
            have N0 := Aside0.mk hHeld
            refine wpAnyH_ready (rs := [13]) (by kernel_rfl) (by simp) ?_
            refine AllReadyH.cons rfl (fun K hK => ?_) AllReadyH.nil
            go_simp
            go_wp2_with (first | (go_at_call 26; refine (rcmp_calls y x _).mono ?_; rintro e wc ⟨rfl, hb⟩; rw [HQ.out]; have NC := Aside0.mk (below_step N0.out hb); clear hb))
            clear hHeld
            refine hK.out _ _ NC.out (fun hHeld => ?_)
            clear hK K
            try simp only [putL, putN, List.set]
            refine tk (i := 14) (v := _) 26 rfl (Or.inl ⟨by rfl, fun w' hW => by go_simp; try (first | with_reducible rfl | rfl)⟩) hHeld ?_
            try simp only [putL, putN, List.set]
            refine tk (i := 15) (v := _) 27 rfl (Or.inl ⟨by rfl, fun w' hW => by go_simp; try (first | with_reducible rfl | rfl)⟩) hHeld ?_
            try simp only [putL, putN, List.set]
            refine wpAnyH_done (by kernel_rfl) ?_ _
            clear hHeld
            have HN : Aside0 (¬ ltS y x) := ⟨fun h => by have h2 := (cmpI_lt y x).2 h; rw [HQ.out] at h2; have := HLT.out; omega⟩
            go_upto_region 8 with fail
            have HB8 : Aside0 (Below wo.heap.size wo wc) := ⟨hS2.out.2.1.trans (NC.out.mono hS2.out.2.1.size)⟩
            have HXC : Aside0 (∀ i v, (cS x).toList[i]? = some v → wc.cell? ((ad.add (m * 2)).add i) = some v) := ⟨fun i v hv => pw_cell_below HB8.out (HX.out i v hv)⟩
            have HYC : Aside0 (∀ i v, (cS y).toList[i]? = some v → wc.cell? ((adT.add (j * 2)).add i) = some v) := ⟨fun i v hv => pw_cell_below NC.out (HCTJ.out i v hv)⟩
            have d6 : decide ((j : Int) = (T.length : Int)) = false := decide_eq_false (by have := G1.out; omega)
            have d7 : decide (j = T.length) = false := decide_eq_false (by have := G1.out; omega)
            have d8 : ((j : Int) == (T.length : Int)) = false := beq_false_of_ne (by have := G1.out; omega)
            by_cases hyx : y = x
            · have HYX := Aside0.mk hyx
              have e1 : (y.1 == x.1) = true := by rw [hyx]; simp
              have e2 : (y.2 == x.2) = true := by rw [hyx]; simp
              clear hyx
              have hu29 := Try.underlying29
              refine wp_region_held_drew (S := fun w' => Below wc.heap.size wc w') (by kernel_rfl) (pw_below_drewN (Below.refl _ _) 1) (fun hHeld => ?_)
              generalize wc.drew = wd at hHeld ⊢
              refine tk (i := 0) (v := _) 30 rfl (Or.inl ⟨by rfl, fun w' hW => by go_simp; try (first | with_reducible rfl | rfl)⟩) hHeld ?_
              try simp only [putL, putN, List.set]
              refine tk (i := 1) (v := _) 31 rfl (Or.inl ⟨by rfl, fun w' hW => by go_simp; try (first | with_reducible rfl | rfl)⟩) hHeld ?_
              try simp only [putL, putN, List.set]
              refine tk (i := 2) (v := _) 32 rfl (Or.inl ⟨by rfl, fun w' hW => by go_simp; try (first | with_reducible rfl | rfl)⟩) hHeld ?_
              try simp only [putL, putN, List.set]
              refine tk (i := 3) (v := _) 33 rfl (Or.inl ⟨by rfl, fun w' hW => by go_simp; try (first | with_reducible rfl | rfl)⟩) hHeld ?_
              try simp only [putL, putN, List.set]
              refine tk (i := 4) (v := _) 34 rfl (Or.inl ⟨by rfl, fun w' hW => by go_simp; try (first | with_reducible rfl | rfl)⟩) hHeld ?_
              try simp only [putL, putN, List.set]
              refine tk (i := 5) (v := _) 35 rfl (Or.inl ⟨by rfl, fun w' hW => by go_simp; try (first | with_reducible rfl | rfl)⟩) hHeld ?_
              try simp only [putL, putN, List.set]
              refine tk (i := 6) (v := _) 36 rfl (Or.inl ⟨by rfl, fun w' hW => by go_simp; try (first | with_reducible rfl | rfl)⟩) hHeld ?_
              try simp only [putL, putN, List.set]
              refine tk (i := 7) (v := _) 37 rfl (Or.inl ⟨by rfl, fun w' hW => by go_simp; try (first | with_reducible rfl | rfl)⟩) hHeld ?_
              try simp only [putL, putN, List.set]
              refine tk (i := 8) (v := _) 38 rfl (yields_any (by rfl) 29 (.tmp 37) rfl (adT.add (j * 2)) rfl (cS y) _ (fun w' hW j v hj => pw_cell_below hW (HYC.out j v hj)) Try.underlying29 rfl (by kernel_rfl)) hHeld ?_
              try simp only [putL, putN, List.set]
              refine tk (i := 9) (v := _) 39 rfl (Or.inl ⟨by rfl, fun w' hW => by go_simp; try (first | with_reducible rfl | rfl)⟩) hHeld ?_
              try simp only [putL, putN, List.set]
              refine tk (i := 10) (v := _) 40 rfl (Or.inl ⟨by rfl, fun w' hW => by go_simp; try (first | with_reducible rfl | rfl)⟩) hHeld ?_
              try simp only [putL, putN, List.set]
              refine tk (i := 11) (v := _) 41 rfl (Or.inl ⟨by rfl, fun w' hW => by go_simp; try (first | with_reducible rfl | rfl)⟩) hHeld ?_
              try simp only [putL, putN, List.set]
              refine tk (i := 12) (v := _) 42 rfl (yields_any (by rfl) 29 (.tmp 41) rfl (ad.add (m * 2)) rfl (cS x) _ (fun w' hW j v hj => pw_cell_below hW (HXC.out j v hj)) Try.underlying29 rfl (by kernel_rfl)) hHeld ?_
              try simp only [putL, putN, List.set]
              refine tk (i := 13) (v := .bool false) 43 rfl (Or.inl ⟨by rfl, fun w' hW => by go_simp; try (first | with_reducible rfl | rfl | (simp [e1]; done) | (simp [e1, e2]; done) | exact hn2)⟩) hHeld ?_
              try simp only [putL, putN, List.set]
              refine tk (i := 14) (v := _) 44 rfl (Or.inl ⟨by rfl, fun w' hW => by go_simp; try (first | with_reducible rfl | rfl)⟩) hHeld ?_
              try simp only [putL, putN, List.set]
              have N8 := Aside0.mk hHeld
              refine wpAnyH_done (by kernel_rfl) ?_ _
              clear hHeld
              go_wp2_with fail
              have HBD : Aside0 (Below wo.heap.size wo wd) := ⟨HB8.out.trans (N8.out.mono HB8.out.size)⟩
              refine ⟨⟨m + 1, T, by first | rfl | (rw [hw]; rfl), ⟨hS.out.b.trans (HBD.out.mono hS.out.b.size), by have := H1.out; omega, Kd.R_below hS.out.r HBD.out, hS.out.st, HST.out T (fun z => ⟨.inl, fun h => h.elim id (fun hz => by
                rw [hz, ← HYX.out, ← HTJ.out G1.out]
                exact List.getElem_mem _)⟩), by have := hS.out.len; omega⟩⟩, by first | exact HH.out | (rw [hw]; exact HH.out)⟩
            · have HYX := Aside0.mk hyx
              have hn2 : y.1 = x.1 → ¬ y.2 = x.2 := fun h1 h2 => hyx (Prod.ext h1 h2)
              have e1 : (y.1 == x.1 && y.2 == x.2) = false := by
                obtain ⟨y1, y2⟩ := y
                obtain ⟨x1, x2⟩ := x
                simp only [Prod.mk.injEq, not_and] at hyx
                by_cases e : y1 = x1
                · have := hyx e; simp [this]
                · simp [e]
              clear hyx
              have hu29 := Try.underlying29
              refine wp_region_held_drew (S := fun w' => Below wc.heap.size wc w') (by kernel_rfl) (pw_below_drewN (Below.refl _ _) 1) (fun hHeld => ?_)
              generalize wc.drew = wd at hHeld ⊢
              refine tk (i := 0) (v := _) 30 rfl (Or.inl ⟨by rfl, fun w' hW => by go_simp; try (first | with_reducible rfl | rfl)⟩) hHeld ?_
              try simp only [putL, putN, List.set]
              refine tk (i := 1) (v := _) 31 rfl (Or.inl ⟨by rfl, fun w' hW => by go_simp; try (first | with_reducible rfl | rfl)⟩) hHeld ?_
              try simp only [putL, putN, List.set]
              refine tk (i := 2) (v := _) 32 rfl (Or.inl ⟨by rfl, fun w' hW => by go_simp; try (first | with_reducible rfl | rfl)⟩) hHeld ?_
              try simp only [putL, putN, List.set]
              refine tk (i := 3) (v := _) 33 rfl (Or.inl ⟨by rfl, fun w' hW => by go_simp; try (first | with_reducible rfl | rfl)⟩) hHeld ?_
              try simp only [putL, putN, List.set]
              refine tk (i := 4) (v := _) 34 rfl (Or.inl ⟨by rfl, fun w' hW => by go_simp; try (first | with_reducible rfl | rfl)⟩) hHeld ?_
              try simp only [putL, putN, List.set]
              refine tk (i := 5) (v := _) 35 rfl (Or.inl ⟨by rfl, fun w' hW => by go_simp; try (first | with_reducible rfl | rfl)⟩) hHeld ?_
              try simp only [putL, putN, List.set]
              refine tk (i := 6) (v := _) 36 rfl (Or.inl ⟨by rfl, fun w' hW => by go_simp; try (first | with_reducible rfl | rfl)⟩) hHeld ?_
              try simp only [putL, putN, List.set]
              refine tk (i := 7) (v := _) 37 rfl (Or.inl ⟨by rfl, fun w' hW => by go_simp; try (first | with_reducible rfl | rfl)⟩) hHeld ?_
              try simp only [putL, putN, List.set]
              refine tk (i := 8) (v := _) 38 rfl (yields_any (by rfl) 29 (.tmp 37) rfl (adT.add (j * 2)) rfl (cS y) _ (fun w' hW j v hj => pw_cell_below hW (HYC.out j v hj)) Try.underlying29 rfl (by kernel_rfl)) hHeld ?_
              try simp only [putL, putN, List.set]
              refine tk (i := 9) (v := _) 39 rfl (Or.inl ⟨by rfl, fun w' hW => by go_simp; try (first | with_reducible rfl | rfl)⟩) hHeld ?_
              try simp only [putL, putN, List.set]
              refine tk (i := 10) (v := _) 40 rfl (Or.inl ⟨by rfl, fun w' hW => by go_simp; try (first | with_reducible rfl | rfl)⟩) hHeld ?_
              try simp only [putL, putN, List.set]
              refine tk (i := 11) (v := _) 41 rfl (Or.inl ⟨by rfl, fun w' hW => by go_simp; try (first | with_reducible rfl | rfl)⟩) hHeld ?_
              try simp only [putL, putN, List.set]
              refine tk (i := 12) (v := _) 42 rfl (yields_any (by rfl) 29 (.tmp 41) rfl (ad.add (m * 2)) rfl (cS x) _ (fun w' hW j v hj => pw_cell_below hW (HXC.out j v hj)) Try.underlying29 rfl (by kernel_rfl)) hHeld ?_
              try simp only [putL, putN, List.set]
              refine tk (i := 13) (v := .bool true) 43 rfl (Or.inl ⟨by rfl, fun w' hW => by go_simp; try (first | with_reducible rfl | rfl | (simp [e1]; done) | (simp [e1, e2]; done) | exact hn2)⟩) hHeld ?_
              try simp only [putL, putN, List.set]
              refine tk (i := 14) (v := _) 44 rfl (Or.inl ⟨by rfl, fun w' hW => by go_simp; try (first | with_reducible rfl | rfl)⟩) hHeld ?_
              try simp only [putL, putN, List.set]
              have N8 := Aside0.mk hHeld
              refine wpAnyH_done (by kernel_rfl) ?_ _
              clear hHeld
              have HBD : Aside0 (Below wo.heap.size wo wd) := ⟨HB8.out.trans (N8.out.mono HB8.out.size)⟩
              have HXD : Aside0 (∀ i v, (cS x).toList[i]? = some v → wd.cell? ((ad.add (m * 2)).add i) = some v) := ⟨fun i v hv => pw_cell_below N8.out (HXC.out i v hv)⟩
              have hct1 : T.length ≤ ct := HCT.out.1
              have hj1 : j < T.length := G1.out
              have hj2 : ¬ ct = j := by omega
              have hj3 : j ≤ ct := by omega
              have hj4 : (j : Int) ≤ (T.length : Int) := by omega
              have hj5 : (j : Int) ≤ (ct : Int) := by omega
              have hj6 : (T.length : Int) ≤ (ct : Int) := by omega
              go_upto_region 9 with fail
              refine wp_region_held_drew (S := fun w' => Below wd.heap.size wd w') (by kernel_rfl) (pw_below_drewN (Below.refl _ _) 1) (fun hHeld => ?_)
              generalize wd.drew = we at hHeld ⊢
              refine tk (i := 1) (v := _) 46 rfl (Or.inl ⟨by rfl, fun w' hW => by go_simp; try (first | with_reducible rfl | rfl)⟩) hHeld ?_
              try simp only [putL, putN, List.set]
              refine tk (i := 2) (v := _) 47 rfl (Or.inl ⟨by rfl, fun w' hW => by go_simp; try (first | with_reducible rfl | rfl)⟩) hHeld ?_
              try simp only [putL, putN, List.set]
              refine tk (i := 5) (v := _) 50 rfl (Or.inl ⟨by rfl, fun w' hW => by go_simp; try (first | with_reducible rfl | rfl)⟩) hHeld ?_
              try simp only [putL, putN, List.set]
              refine tk (i := 6) (v := _) 51 rfl (Or.inl ⟨by rfl, fun w' hW => by go_simp; try (first | with_reducible rfl | rfl)⟩) hHeld ?_
              try simp only [putL, putN, List.set]
              refine tk (i := 11) (v := _) 56 rfl (Or.inl ⟨by rfl, fun w' hW => by go_simp; try (first | with_reducible rfl | rfl)⟩) hHeld ?_
              try simp only [putL, putN, List.set]
              refine tk (i := 12) (v := _) 57 rfl (Or.inl ⟨by rfl, fun w' hW => by go_simp; try (first | with_reducible rfl | rfl)⟩) hHeld ?_
              try simp only [putL, putN, List.set]
              refine tk (i := 3) (v := _) 48 rfl (Or.inl ⟨by rfl, fun w' hW => by go_simp; try (first | with_reducible rfl | rfl)⟩) hHeld ?_
              try simp only [putL, putN, List.set]
              refine tk (i := 13) (v := _) 58 rfl (Or.inl ⟨by rfl, fun w' hW => by go_simp; try (first | with_reducible rfl | rfl)⟩) hHeld ?_
              try simp only [putL, putN, List.set]
              refine tk (i := 7) (v := _) 52 rfl (Or.inl ⟨by rfl, fun w' hW => by go_simp; try (first | with_reducible rfl | rfl)⟩) hHeld ?_
              try simp only [putL, putN, List.set]
              refine tk (i := 8) (v := _) 53 rfl (yields_any (by rfl) 29 (.tmp 52) rfl (ad.add (m * 2)) rfl (cS x) _ (fun w' hW j v hj => pw_cell_below hW (HXD.out j v hj)) Try.underlying29 rfl (by kernel_rfl)) hHeld ?_
              try simp only [putL, putN, List.set]
              have N9 := Aside0.mk hHeld
              refine wpAnyH_ready (rs := [0, 9]) (by kernel_rfl) (by simp) ?_
              refine AllReadyH.cons rfl (fun K hK => ?_) (AllReadyH.cons rfl (fun K hK => ?_) AllReadyH.nil)
              · skip
                go_simp
                have BN23 : Aside0 (Below we.heap.size we (we.alloc (.cells #[] 29))) := ⟨(Below.refl _ _).alloc (Nat.le_refl _) _⟩
                have HN23 : Aside0 (Below wd.heap.size wd (we.alloc (.cells #[] 29))) := ⟨N9.out.alloc N9.out.size _⟩
                have RN23 : Aside0 (Kd.R kS 29 (we.alloc (.cells #[] 29)) wd.heap.size (fun _ => True) (.slice (some ⟨we.heap.size, 0, none⟩) 0 0) []) := ⟨by have := R_empty we wd.heap.size N9.out.size; first | exact this | (rwa [World.size_alloc] at this)⟩
                clear hHeld
                refine hK.out _ _ HN23.out (fun hHeld => ?_)
                clear hK K
                refine wpAnyH_ready (rs := [4, 9]) (by kernel_rfl) (by simp) ?_
                refine AllReadyH.cons rfl (fun K hK => ?_) (AllReadyH.cons rfl (fun K hK => ?_) AllReadyH.nil)
                · skip
                  refine Kd.R_append_rows_step kS (w0 := wd) wd.heap.size (by rfl) (.tmp 45) (.tmp 48) 52 29 _ 16 rfl Try.underlying52 infoS29 rfl (by decide) (by decide) _ ([]) (T.take (j)) _ _ _ (fun _ => True) (fun _ => False) rfl rfl RN23.out (C_take2 (Kd.C_below HCT.out.2 (HBD.out.trans (HN23.out.mono HBD.out.size))) j hS2.out.1) (fun x cs h => K_M x cs h) (fun _ h => h.elim) (fun _ _ => trivial) HN23.out HN23.out.size (by have := HTL.out; first | omega | (simp; done) | (simp; omega)) ?_
                  intro vN24 wN24 hR hB hg hat
                  replace hg : World.grownBy _ _ (Value.slice (some ⟨we.heap.size, 0, none⟩) 0 0).ownBlock := hg
                  have RN24 := Aside0.mk hR
                  have HN24 := Aside0.mk hB
                  clear hR hB hg hat hHeld
                  refine hK.out _ _ HN24.out (fun hHeld => ?_)
                  clear hK K
                  try simp only [putL, putN, List.set]
                  refine wpAnyH_ready (rs := [9]) (by kernel_rfl) (by simp) ?_
                  refine AllReadyH.cons rfl (fun K hK => ?_) AllReadyH.nil
                  · skip
                    go_simp
                    have BN25 : Aside0 (Below wN24.heap.size wN24 (wN24.alloc (.cells #[.int .i64 x.1, .int .i64 x.2] 29))) := ⟨(Below.refl _ _).alloc (Nat.le_refl _) _⟩
                    have HN25 : Aside0 (Below wd.heap.size wd (wN24.alloc (.cells #[.int .i64 x.1, .int .i64 x.2] 29))) := ⟨HN24.out.alloc HN24.out.size _⟩
                    have RN25 := Aside0.mk (Kd.R_below RN24.out BN25.out)
                    have XN25 : Aside0 ((wN24.alloc (.cells #[.int .i64 x.1, .int .i64 x.2] 29)).heap[wN24.heap.size]? = some (Obj.cells (cS x) 29 (0, 0))) := ⟨by have := World.alloc_heap_new wN24 (.cells #[.int .i64 x.1, .int .i64 x.2] 29); first | exact this | (rwa [World.size_alloc] at this)⟩
                    clear hHeld
                    refine hK.out _ _ HN25.out (fun hHeld => ?_)
                    clear hK K
                    refine wpAnyH_ready (rs := [10]) (by kernel_rfl) (by simp) ?_
                    refine AllReadyH.cons rfl (fun K hK => ?_) AllReadyH.nil
                    refine Kd.R_append_rows_step kS (w0 := wd) wd.heap.size (by rfl) (.tmp 49) (.tmp 54) 52 29 _ 16 rfl Try.underlying52 infoS29 rfl (by decide) (by decide) _ (T.take (j)) ([x]) _ _ _ (fun _ => True) (fun _ => False) rfl rfl RN25.out (one_C XN25.out) (fun x cs h => K_M x cs h) (fun _ h => h.elim) (fun _ _ => trivial) HN25.out HN25.out.size (by rw [List.length_take]; have := HTL.out; first | omega | (simp; done) | (simp; omega)) ?_
                    intro vA26 wA26 hR hB hg hat
                    have RA26 := Aside0.mk hR
                    have BA26 := Aside0.mk hB
                    clear hR hB hg hat hHeld
                    refine hK.out _ _ BA26.out (fun hHeld => ?_)
                    clear hK K
                    try simp only [putL, putN, List.set]
                    refine wpAnyH_ready (rs := [14]) (by kernel_rfl) (by simp) ?_
                    refine AllReadyH.cons rfl (fun K hK => ?_) AllReadyH.nil
                    refine Kd.R_append_rows_step kS (w0 := wd) wd.heap.size (by rfl) (.tmp 55) (.tmp 58) 52 29 _ 16 rfl Try.underlying52 infoS29 rfl (by decide) (by decide) _ (T.take (j) ++ [x]) (T.drop (j)) _ _ _ (fun _ => True) (fun _ => False) rfl rfl RA26.out (by have := C_sub2 (Kd.C_below HCT.out.2 (HBD.out.trans (BA26.out.mono HBD.out.size))) j (T.length - j) (by have := G1.out; omega); rw [List.take_of_length_le (by rw [List.length_drop]; omega)] at this; exact this) (fun x cs h => K_M x cs h) (fun _ h => h.elim) (fun _ _ => trivial) BA26.out BA26.out.size (by rw [List.length_append, List.length_take, List.length_singleton]; have := HTL.out; first | omega | (simp; done) | (simp; omega)) ?_
                    intro vB26 wB26 hR hB hg hat
                    have RB26 := Aside0.mk hR
                    have BB26 := Aside0.mk hB
                    clear hR hB hg hat hHeld
                    refine hK.out _ _ BB26.out (fun hHeld => ?_)
                    clear hK K
                    try simp only [putL, putN, List.set]
                    refine tk (i := 15) (v := _) 3 rfl (Or.inl ⟨by rfl, fun w' hW => by go_simp; try (first | with_reducible rfl | rfl)⟩) hHeld ?_
                    try simp only [putL, putN, List.set]
                    refine wpAnyH_done (by kernel_rfl) ?_ _
                    clear hHeld
                    go_wp2_with fail
                    refine ⟨⟨m + 1, T.take j ++ [x] ++ T.drop j, by first | rfl | (rw [hw]; rfl), ?_⟩, by first | exact HH.out | (rw [hw]; exact HH.out)⟩
                    have e : T.take j ++ [x] ++ T.drop j = insK (0, 0) T x j := by unfold insK; rw [if_pos (.inr (by rw [HY.out]; exact HYX.out)), List.append_assoc]; rfl
                    have hb : Below w.heap.size w wd := hS.out.b.trans (HBD.out.mono hS.out.b.size)
                    refine ⟨⟨hb.trans (BB26.out.mono hb.size), by have := H1.out; omega, Kd.R_lower RB26.out hb.size, ?_, ?_, ?_⟩⟩
                    · rw [e]; exact insK_strict ltS (0, 0) ltS_tr ltS_tot T x j hS2.out.1 hS.out.st hS2.out.2.2 (fun hi => by rw [HTJ.out hi]; exact HN.out)
                    · exact HST.out _ (fun z => by rw [e]; exact insK_mem (0, 0) T x j hS2.out.1 z)
                    · rw [e]; have := insK_len T x j hS2.out.1; have := hS.out.len; omega
                · skip
                  go_simp
                  have BN27 : Aside0 (Below (we.alloc (.cells #[] 29)).heap.size (we.alloc (.cells #[] 29)) ((we.alloc (.cells #[] 29)).alloc (.cells #[.int .i64 x.1, .int .i64 x.2] 29))) := ⟨(Below.refl _ _).alloc (Nat.le_refl _) _⟩
                  have HN27 : Aside0 (Below wd.heap.size wd ((we.alloc (.cells #[] 29)).alloc (.cells #[.int .i64 x.1, .int .i64 x.2] 29))) := ⟨HN23.out.alloc HN23.out.size _⟩
                  have RN27 := Aside0.mk (Kd.R_below RN23.out BN27.out)
                  have XN27 : Aside0 (((we.alloc (.cells #[] 29)).alloc (.cells #[.int .i64 x.1, .int .i64 x.2] 29)).heap[we.heap.size + 1]? = some (Obj.cells (cS x) 29 (0, 0))) := ⟨by have := World.alloc_heap_new (we.alloc (.cells #[] 29)) (.cells #[.int .i64 x.1, .int .i64 x.2] 29); first | exact this | (rwa [World.size_alloc] at this)⟩
                  clear hHeld
                  refine hK.out _ _ HN27.out (fun hHeld => ?_)
                  clear hK K
                  refine wpAnyH_ready (rs := [4]) (by kernel_rfl) (by simp) ?_
                  refine AllReadyH.cons rfl (fun K hK => ?_) AllReadyH.nil
                  · skip
                    refine Kd.R_append_rows_step kS (w0 := wd) wd.heap.size (by rfl) (.tmp 45) (.tmp 48) 52 29 _ 16 rfl Try.underlying52 infoS29 rfl (by decide) (by decide) _ ([]) (T.take (j)) _ _ _ (fun _ => True) (fun _ => False) rfl rfl RN27.out (C_take2 (Kd.C_below HCT.out.2 (HBD.out.trans (HN27.out.mono HBD.out.size))) j hS2.out.1) (fun x cs h => K_M x cs h) (fun _ h => h.elim) (fun _ _ => trivial) HN27.out HN27.out.size (by have := HTL.out; first | omega | (simp; done) | (simp; omega)) ?_
                    intro vN28 wN28 hR hB hg hat
                    replace hg : World.grownBy _ _ (Value.slice (some ⟨we.heap.size, 0, none⟩) 0 0).ownBlock := hg
                    have RN28 := Aside0.mk hR
                    have HN28 := Aside0.mk hB
                    have XN28 : Aside0 (wN28.heap[we.heap.size + 1]? = some (Obj.cells (cS x) 29 (0, 0))) := ⟨(hg.block _ (Array.getElem?_eq_some_iff.1 XN27.out).1 (by simp [Value.ownBlock, World.size_alloc])).trans XN27.out⟩
                    clear hR hB hg hat hHeld
                    refine hK.out _ _ HN28.out (fun hHeld => ?_)
                    clear hK K
                    try simp only [putL, putN, List.set]
                    refine wpAnyH_ready (rs := [10]) (by kernel_rfl) (by simp) ?_
                    refine AllReadyH.cons rfl (fun K hK => ?_) AllReadyH.nil
                    refine Kd.R_append_rows_step kS (w0 := wd) wd.heap.size (by rfl) (.tmp 49) (.tmp 54) 52 29 _ 16 rfl Try.underlying52 infoS29 rfl (by decide) (by decide) _ (T.take (j)) ([x]) _ _ _ (fun _ => True) (fun _ => False) rfl rfl RN28.out (one_C XN28.out) (fun x cs h => K_M x cs h) (fun _ h => h.elim) (fun _ _ => trivial) HN28.out HN28.out.size (by rw [List.length_take]; have := HTL.out; first | omega | (simp; done) | (simp; omega)) ?_
                    intro vA29 wA29 hR hB hg hat
                    have RA29 := Aside0.mk hR
                    have BA29 := Aside0.mk hB
                    clear hR hB hg hat hHeld
                    refine hK.out _ _ BA29.out (fun hHeld => ?_)
                    clear hK K
                    try simp only [putL, putN, List.set]
                    refine wpAnyH_ready (rs := [14]) (by kernel_rfl) (by simp) ?_
                    refine AllReadyH.cons rfl (fun K hK => ?_) AllReadyH.nil
                    refine Kd.R_append_rows_step kS (w0 := wd) wd.heap.size (by rfl) (.tmp 55) (.tmp 58) 52 29 _ 16 rfl Try.underlying52 infoS29 rfl (by decide) (by decide) _ (T.take (j) ++ [x]) (T.drop (j)) _ _ _ (fun _ => True) (fun _ => False) rfl rfl RA29.out (by have := C_sub2 (Kd.C_below HCT.out.2 (HBD.out.trans (BA29.out.mono HBD.out.size))) j (T.length - j) (by have := G1.out; omega); rw [List.take_of_length_le (by rw [List.length_drop]; omega)] at this; exact this) (fun x cs h => K_M x cs h) (fun _ h => h.elim) (fun _ _ => trivial) BA29.out BA29.out.size (by rw [List.length_append, List.length_take, List.length_singleton]; have := HTL.out; first | omega | (simp; done) | (simp; omega)) ?_
                    intro vB29 wB29 hR hB hg hat
                    have RB29 := Aside0.mk hR
                    have BB29 := Aside0.mk hB
                    clear hR hB hg hat hHeld
                    refine hK.out _ _ BB29.out (fun hHeld => ?_)
                    clear hK K
                    try simp only [putL, putN, List.set]
                    refine tk (i := 15) (v := _) 3 rfl (Or.inl ⟨by rfl, fun w' hW => by go_simp; try (first | with_reducible rfl | rfl)⟩) hHeld ?_
                    try simp only [putL, putN, List.set]
                    refine wpAnyH_done (by kernel_rfl) ?_ _
                    clear hHeld
                    go_wp2_with fail
                    refine ⟨⟨m + 1, T.take j ++ [x] ++ T.drop j, by first | rfl | (rw [hw]; rfl), ?_⟩, by first | exact HH.out | (rw [hw]; exact HH.out)⟩
                    have e : T.take j ++ [x] ++ T.drop j = insK (0, 0) T x j := by unfold insK; rw [if_pos (.inr (by rw [HY.out]; exact HYX.out)), List.append_assoc]; rfl
                    have hb : Below w.heap.size w wd := hS.out.b.trans (HBD.out.mono hS.out.b.size)
                    refine ⟨⟨hb.trans (BB29.out.mono hb.size), by have := H1.out; omega, Kd.R_lower RB29.out hb.size, ?_, ?_, ?_⟩⟩
                    · rw [e]; exact insK_strict ltS (0, 0) ltS_tr ltS_tot T x j hS2.out.1 hS.out.st hS2.out.2.2 (fun hi => by rw [HTJ.out hi]; exact HN.out)
                    · exact HST.out _ (fun z => by rw [e]; exact insK_mem (0, 0) T x j hS2.out.1 z)
                    · rw [e]; have := insK_len T x j hS2.out.1; have := hS.out.len; omega
              · skip
                go_simp
                have BN30 : Aside0 (Below we.heap.size we (we.alloc (.cells #[.int .i64 x.1, .int .i64 x.2] 29))) := ⟨(Below.refl _ _).alloc (Nat.le_refl _) _⟩
                have HN30 : Aside0 (Below wd.heap.size wd (we.alloc (.cells #[.int .i64 x.1, .int .i64 x.2] 29))) := ⟨N9.out.alloc N9.out.size _⟩
                have XN30 : Aside0 ((we.alloc (.cells #[.int .i64 x.1, .int .i64 x.2] 29)).heap[we.heap.size]? = some (Obj.cells (cS x) 29 (0, 0))) := ⟨by have := World.alloc_heap_new we (.cells #[.int .i64 x.1, .int .i64 x.2] 29); first | exact this | (rwa [World.size_alloc] at this)⟩
                clear hHeld
                refine hK.out _ _ HN30.out (fun hHeld => ?_)
                clear hK K
                refine wpAnyH_ready (rs := [0]) (by kernel_rfl) (by simp) ?_
                refine AllReadyH.cons rfl (fun K hK => ?_) AllReadyH.nil
                · skip
                  go_simp
                  have BN31 : Aside0 (Below (we.alloc (.cells #[.int .i64 x.1, .int .i64 x.2] 29)).heap.size (we.alloc (.cells #[.int .i64 x.1, .int .i64 x.2] 29)) ((we.alloc (.cells #[.int .i64 x.1, .int .i64 x.2] 29)).alloc (.cells #[] 29))) := ⟨(Below.refl _ _).alloc (Nat.le_refl _) _⟩
                  have HN31 : Aside0 (Below wd.heap.size wd ((we.alloc (.cells #[.int .i64 x.1, .int .i64 x.2] 29)).alloc (.cells #[] 29))) := ⟨HN30.out.alloc HN30.out.size _⟩
                  have RN31 : Aside0 (Kd.R kS 29 ((we.alloc (.cells #[.int .i64 x.1, .int .i64 x.2] 29)).alloc (.cells #[] 29)) wd.heap.size (fun _ => True) (.slice (some ⟨we.heap.size + 1, 0, none⟩) 0 0) []) := ⟨by have := R_empty (we.alloc (.cells #[.int .i64 x.1, .int .i64 x.2] 29)) wd.heap.size HN30.out.size; first | exact this | (rwa [World.size_alloc] at this)⟩
                  have XN31 := Aside0.mk (obj_below BN31.out XN30.out)
                  clear hHeld
                  refine hK.out _ _ HN31.out (fun hHeld => ?_)
                  clear hK K
                  refine wpAnyH_ready (rs := [4]) (by kernel_rfl) (by simp) ?_
                  refine AllReadyH.cons rfl (fun K hK => ?_) AllReadyH.nil
                  · skip
                    refine Kd.R_append_rows_step kS (w0 := wd) wd.heap.size (by rfl) (.tmp 45) (.tmp 48) 52 29 _ 16 rfl Try.underlying52 infoS29 rfl (by decide) (by decide) _ ([]) (T.take (j)) _ _ _ (fun _ => True) (fun _ => False) rfl rfl RN31.out (C_take2 (Kd.C_below HCT.out.2 (HBD.out.trans (HN31.out.mono HBD.out.size))) j hS2.out.1) (fun x cs h => K_M x cs h) (fun _ h => h.elim) (fun _ _ => trivial) HN31.out HN31.out.size (by have := HTL.out; first | omega | (simp; done) | (simp; omega)) ?_
                    intro vN32 wN32 hR hB hg hat
                    replace hg : World.grownBy _ _ (Value.slice (some ⟨we.heap.size + 1, 0, none⟩) 0 0).ownBlock := hg
                    have RN32 := Aside0.mk hR
                    have HN32 := Aside0.mk hB
                    have XN32 : Aside0 (wN32.heap[we.heap.size]? = some (Obj.cells (cS x) 29 (0, 0))) := ⟨(hg.block _ (Array.getElem?_eq_some_iff.1 XN31.out).1 (by simp [Value.ownBlock, World.size_alloc])).trans XN31.out⟩
                    clear hR hB hg hat hHeld
                    refine hK.out _ _ HN32.out (fun hHeld => ?_)
                    clear hK K
                    try simp only [putL, putN, List.set]
                    refine wpAnyH_ready (rs := [10]) (by kernel_rfl) (by simp) ?_
                    refine AllReadyH.cons rfl (fun K hK => ?_) AllReadyH.nil
                    refine Kd.R_append_rows_step kS (w0 := wd) wd.heap.size (by rfl) (.tmp 49) (.tmp 54) 52 29 _ 16 rfl Try.underlying52 infoS29 rfl (by decide) (by decide) _ (T.take (j)) ([x]) _ _ _ (fun _ => True) (fun _ => False) rfl rfl RN32.out (one_C XN32.out) (fun x cs h => K_M x cs h) (fun _ h => h.elim) (fun _ _ => trivial) HN32.out HN32.out.size (by rw [List.length_take]; have := HTL.out; first | omega | (simp; done) | (simp; omega)) ?_
                    intro vA33 wA33 hR hB hg hat
                    have RA33 := Aside0.mk hR
                    have BA33 := Aside0.mk hB
                    clear hR hB hg hat hHeld
                    refine hK.out _ _ BA33.out (fun hHeld => ?_)
                    clear hK K
                    try simp only [putL, putN, List.set]
                    refine wpAnyH_ready (rs := [14]) (by kernel_rfl) (by simp) ?_
                    refine AllReadyH.cons rfl (fun K hK => ?_) AllReadyH.nil
                    refine Kd.R_append_rows_step kS (w0 := wd) wd.heap.size (by rfl) (.tmp 55) (.tmp 58) 52 29 _ 16 rfl Try.underlying52 infoS29 rfl (by decide) (by decide) _ (T.take (j) ++ [x]) (T.drop (j)) _ _ _ (fun _ => True) (fun _ => False) rfl rfl RA33.out (by have := C_sub2 (Kd.C_below HCT.out.2 (HBD.out.trans (BA33.out.mono HBD.out.size))) j (T.length - j) (by have := G1.out; omega); rw [List.take_of_length_le (by rw [List.length_drop]; omega)] at this; exact this) (fun x cs h => K_M x cs h) (fun _ h => h.elim) (fun _ _ => trivial) BA33.out BA33.out.size (by rw [List.length_append, List.length_take, List.length_singleton]; have := HTL.out; first | omega | (simp; done) | (simp; omega)) ?_
                    intro vB33 wB33 hR hB hg hat
                    have RB33 := Aside0.mk hR
                    have BB33 := Aside0.mk hB
                    clear hR hB hg hat hHeld
                    refine hK.out _ _ BB33.out (fun hHeld => ?_)
                    clear hK K
                    try simp only [putL, putN, List.set]
                    refine tk (i := 15) (v := _) 3 rfl (Or.inl ⟨by rfl, fun w' hW => by go_simp; try (first | with_reducible rfl | rfl)⟩) hHeld ?_
                    try simp only [putL, putN, List.set]
                    refine wpAnyH_done (by kernel_rfl) ?_ _
                    clear hHeld
                    go_wp2_with fail
                    refine ⟨⟨m + 1, T.take j ++ [x] ++ T.drop j, by first | rfl | (rw [hw]; rfl), ?_⟩, by first | exact HH.out | (rw [hw]; exact HH.out)⟩
                    have e : T.take j ++ [x] ++ T.drop j = insK (0, 0) T x j := by unfold insK; rw [if_pos (.inr (by rw [HY.out]; exact HYX.out)), List.append_assoc]; rfl
                    have hb : Below w.heap.size w wd := hS.out.b.trans (HBD.out.mono hS.out.b.size)
                    refine ⟨⟨hb.trans (BB33.out.mono hb.size), by have := H1.out; omega, Kd.R_lower RB33.out hb.size, ?_, ?_, ?_⟩⟩
                    · rw [e]; exact insK_strict ltS (0, 0) ltS_tr ltS_tot T x j hS2.out.1 hS.out.st hS2.out.2.2 (fun hi => by rw [HTJ.out hi]; exact HN.out)
                    · exact HST.out _ (fun z => by rw [e]; exact insK_mem (0, 0) T x j hS2.out.1 z)
                    · rw [e]; have := insK_len T x j hS2.out.1; have := hS.out.len; omega
        · have d3 : decide ((j : Int) < (T.length : Int)) = false := decide_eq_false (by omega)
          have d4 : decide (j < T.length) = false := decide_eq_false g1
          have hj : j = T.length := by have := hS2.out.1; omega
          subst hj
          clear g1
          cases At with
          | none =>
            obtain rfl : T = [] := by
              cases T with
              | nil => rfl
              | cons y ys => obtain ⟨_, e, _⟩ := HCT.out.2.2.2 (by simp); cases e
            go_upto_region 6 with fail
            refine wp_region_held_drew (S := fun w' => Below wr.heap.size wr w') (by kernel_rfl) (pw_below_drewN (Below.refl _ _) 1) (fun hHeld => ?_)
            generalize wr.drew = w6 at hHeld ⊢
            refine tk (i := 0) (v := _) 12 rfl (Or.inl ⟨by rfl, fun w' hW => by go_simp; try (first | with_reducible rfl | rfl)⟩) hHeld ?_
            try simp only [putL, putN, List.set]
            refine tk (i := 1) (v := _) 13 rfl (Or.inl ⟨by rfl, fun w' hW => by go_simp; try (first | with_reducible rfl | rfl)⟩) hHeld ?_
            try simp only [putL, putN, List.set]
            refine tk (i := 2) (v := _) 14 rfl (Or.inl ⟨by rfl, fun w' hW => by go_simp; try (first | with_reducible rfl | rfl)⟩) hHeld ?_
            try simp only [putL, putN, List.set]
            refine tk (i := 3) (v := _) 15 rfl (Or.inl ⟨by rfl, fun w' hW => by go_simp; try (first | with_reducible rfl | rfl)⟩) hHeld ?_
            try simp only [putL, putN, List.set]
            refine tk (i := 4) (v := _) 16 rfl (Or.inl ⟨by rfl, fun w' hW => by go_simp; try (first | with_reducible rfl | rfl)⟩) hHeld ?_
            try simp only [putL, putN, List.set]
            refine tk (i := 5) (v := undef) 17 rfl (Or.inr ⟨by rfl, rfl⟩) hHeld ?_
            try simp only [putL, putN, List.set]
            refine tk (i := 6) (v := undef) 18 rfl (Or.inr ⟨by rfl, rfl⟩) hHeld ?_
            try simp only [putL, putN, List.set]
            refine tk (i := 7) (v := undef) 19 rfl (Or.inr ⟨by rfl, rfl⟩) hHeld ?_
            try simp only [putL, putN, List.set]
            refine tk (i := 8) (v := undef) 20 rfl (Or.inr ⟨by rfl, rfl⟩) hHeld ?_
            try simp only [putL, putN, List.set]
            refine tk (i := 9) (v := undef) 21 rfl (Or.inr ⟨by rfl, rfl⟩) hHeld ?_
            try simp only [putL, putN, List.set]
            refine tk (i := 10) (v := undef) 22 rfl (Or.inr ⟨by rfl, rfl⟩) hHeld ?_
            try simp only [putL, putN, List.set]
            refine tk (i := 11) (v := undef) 23 rfl (Or.inr ⟨by rfl, rfl⟩) hHeld ?_
            try simp only [putL, putN, List.set]
            refine tk (i := 12) (v := undef) 24 rfl (Or.inr ⟨by rfl, rfl⟩) hHeld ?_
            try simp only [putL, putN, List.set]
            refine tk (i := 13) (v := undef) 25 rfl (Or.inr ⟨by rfl, rfl⟩) hHeld ?_
            try simp only [putL, putN, List.set]
            refine tk (i := 14) (v := undef) 26 rfl (Or.inr ⟨by rfl, rfl⟩) hHeld ?_
            try simp only [putL, putN, List.set]
            refine tk (i := 15) (v := _) 27 rfl (Or.inl ⟨by rfl, fun w' hW => by go_simp; try (first | with_reducible rfl | rfl)⟩) hHeld ?_
            try simp only [putL, putN, List.set]
            have NC := Aside0.mk hHeld
            refine wpAnyH_done (by kernel_rfl) ?_ _
            clear hHeld
            go_upto_region 8 with fail
            refine wp_region_held_drew (S := fun w' => Below w6.heap.size w6 w') (by kernel_rfl) (pw_below_drewN (Below.refl _ _) 1) (fun hHeld => ?_)
            generalize w6.drew = wd at hHeld ⊢
            refine tk (i := 0) (v := _) 30 rfl (Or.inl ⟨by rfl, fun w' hW => by go_simp; try (first | with_reducible rfl | rfl)⟩) hHeld ?_
            try simp only [putL, putN, List.set]
            refine tk (i := 1) (v := _) 31 rfl (Or.inl ⟨by rfl, fun w' hW => by go_simp; try (first | with_reducible rfl | rfl)⟩) hHeld ?_
            try simp only [putL, putN, List.set]
            refine tk (i := 2) (v := _) 32 rfl (Or.inl ⟨by rfl, fun w' hW => by go_simp; try (first | with_reducible rfl | rfl)⟩) hHeld ?_
            try simp only [putL, putN, List.set]
            refine tk (i := 3) (v := _) 33 rfl (Or.inl ⟨by rfl, fun w' hW => by go_simp; try (first | with_reducible rfl | rfl)⟩) hHeld ?_
            try simp only [putL, putN, List.set]
            refine tk (i := 4) (v := _) 34 rfl (Or.inl ⟨by rfl, fun w' hW => by go_simp; try (first | with_reducible rfl | rfl)⟩) hHeld ?_
            try simp only [putL, putN, List.set]
            refine tk (i := 5) (v := undef) 35 rfl (Or.inr ⟨by rfl, rfl⟩) hHeld ?_
            try simp only [putL, putN, List.set]
            refine tk (i := 6) (v := undef) 36 rfl (Or.inr ⟨by rfl, rfl⟩) hHeld ?_
            try simp only [putL, putN, List.set]
            refine tk (i := 7) (v := undef) 37 rfl (Or.inr ⟨by rfl, rfl⟩) hHeld ?_
            try simp only [putL, putN, List.set]
            refine tk (i := 8) (v := undef) 38 rfl (Or.inr ⟨by rfl, rfl⟩) hHeld ?_
            try simp only [putL, putN, List.set]
            refine tk (i := 9) (v := undef) 39 rfl (Or.inr ⟨by rfl, rfl⟩) hHeld ?_
            try simp only [putL, putN, List.set]
            refine tk (i := 10) (v := undef) 40 rfl (Or.inr ⟨by rfl, rfl⟩) hHeld ?_
            try simp only [putL, putN, List.set]
            refine tk (i := 11) (v := undef) 41 rfl (Or.inr ⟨by rfl, rfl⟩) hHeld ?_
            try simp only [putL, putN, List.set]
            refine tk (i := 12) (v := undef) 42 rfl (Or.inr ⟨by rfl, rfl⟩) hHeld ?_
            try simp only [putL, putN, List.set]
            refine tk (i := 13) (v := undef) 43 rfl (Or.inr ⟨by rfl, rfl⟩) hHeld ?_
            try simp only [putL, putN, List.set]
            refine tk (i := 14) (v := _) 44 rfl (Or.inl ⟨by rfl, fun w' hW => by go_simp; try (first | with_reducible rfl | rfl)⟩) hHeld ?_
            try simp only [putL, putN, List.set]
            have N8 := Aside0.mk (below_step NC.out hHeld)
            refine wpAnyH_done (by kernel_rfl) ?_ _
            clear hHeld
            have HBD : Aside0 (Below wo.heap.size wo wd) := ⟨hS2.out.2.1.trans (N8.out.mono hS2.out.2.1.size)⟩
            have HXD : Aside0 (∀ i v, (cS x).toList[i]? = some v → wd.cell? ((ad.add (m * 2)).add i) = some v) := ⟨fun i v hv => pw_cell_below HBD.out (HX.out i v hv)⟩
            have hct1 : 0 ≤ ct := HCT.out.1
            have hj5 : (0 : Int) ≤ (ct : Int) := by omega
            go_upto_region 9 with fail
            refine wp_region_held_drew (S := fun w' => Below wd.heap.size wd w') (by kernel_rfl) (pw_below_drewN (Below.refl _ _) 1) (fun hHeld => ?_)
            generalize wd.drew = we at hHeld ⊢
            refine tk (i := 1) (v := _) 46 rfl (Or.inl ⟨by rfl, fun w' hW => by go_simp; try (first | with_reducible rfl | rfl)⟩) hHeld ?_
            try simp only [putL, putN, List.set]
            refine tk (i := 2) (v := _) 47 rfl (Or.inl ⟨by rfl, fun w' hW => by go_simp; try (first | with_reducible rfl | rfl)⟩) hHeld ?_
            try simp only [putL, putN, List.set]
            refine tk (i := 5) (v := _) 50 rfl (Or.inl ⟨by rfl, fun w' hW => by go_simp; try (first | with_reducible rfl | rfl)⟩) hHeld ?_
            try simp only [putL, putN, List.set]
            refine tk (i := 6) (v := _) 51 rfl (Or.inl ⟨by rfl, fun w' hW => by go_simp; try (first | with_reducible rfl | rfl)⟩) hHeld ?_
            try simp only [putL, putN, List.set]
            refine tk (i := 11) (v := _) 56 rfl (Or.inl ⟨by rfl, fun w' hW => by go_simp; try (first | with_reducible rfl | rfl)⟩) hHeld ?_
            try simp only [putL, putN, List.set]
            refine tk (i := 12) (v := _) 57 rfl (Or.inl ⟨by rfl, fun w' hW => by go_simp; try (first | with_reducible rfl | rfl)⟩) hHeld ?_
            try simp only [putL, putN, List.set]
            refine tk (i := 3) (v := _) 48 rfl (Or.inl ⟨by rfl, fun w' hW => by go_simp; try (first | with_reducible rfl | rfl)⟩) hHeld ?_
            try simp only [putL, putN, List.set]
            refine tk (i := 13) (v := _) 58 rfl (Or.inl ⟨by rfl, fun w' hW => by go_simp; try (first | with_reducible rfl | rfl)⟩) hHeld ?_
            try simp only [putL, putN, List.set]
            refine tk (i := 7) (v := _) 52 rfl (Or.inl ⟨by rfl, fun w' hW => by go_simp; try (first | with_reducible rfl | rfl)⟩) hHeld ?_
            try simp only [putL, putN, List.set]
            refine tk (i := 8) (v := _) 53 rfl (yields_any (by rfl) 29 (.tmp 52) rfl (ad.add (m * 2)) rfl (cS x) _ (fun w' hW j v hj => pw_cell_below hW (HXD.out j v hj)) Try.underlying29 rfl (by kernel_rfl)) hHeld ?_
            try simp only [putL, putN, List.set]
            have N9 := Aside0.mk hHeld
            refine wpAnyH_ready (rs := [0, 9]) (by kernel_rfl) (by simp) ?_
            refine AllReadyH.cons rfl (fun K hK => ?_) (AllReadyH.cons rfl (fun K hK => ?_) AllReadyH.nil)
            · skip
              go_simp
              have BN1 : Aside0 (Below we.heap.size we (we.alloc (.cells #[] 29))) := ⟨(Below.refl _ _).alloc (Nat.le_refl _) _⟩
              have HN1 : Aside0 (Below wd.heap.size wd (we.alloc (.cells #[] 29))) := ⟨N9.out.alloc N9.out.size _⟩
              have RN1 : Aside0 (Kd.R kS 29 (we.alloc (.cells #[] 29)) wd.heap.size (fun _ => True) (.slice (some ⟨we.heap.size, 0, none⟩) 0 0) []) := ⟨by have := R_empty we wd.heap.size N9.out.size; first | exact this | (rwa [World.size_alloc] at this)⟩
              clear hHeld
              refine hK.out _ _ HN1.out (fun hHeld => ?_)
              clear hK K
              refine wpAnyH_ready (rs := [4, 9]) (by kernel_rfl) (by simp) ?_
              refine AllReadyH.cons rfl (fun K hK => ?_) (AllReadyH.cons rfl (fun K hK => ?_) AllReadyH.nil)
              · skip
                refine Kd.R_append_rows_step kS (w0 := wd) wd.heap.size (by rfl) (.tmp 45) (.tmp 48) 52 29 _ 16 rfl Try.underlying52 infoS29 rfl (by decide) (by decide) _ ([]) (([] : List St).take (([] : List St).length)) _ _ _ (fun _ => True) (fun _ => False) rfl rfl RN1.out (C_take2 (Kd.C_below HCT.out.2 (HBD.out.trans (HN1.out.mono HBD.out.size))) ([] : List St).length (Nat.le_refl _)) (fun x cs h => K_M x cs h) (fun _ h => h.elim) (fun _ _ => trivial) HN1.out HN1.out.size (by have := HTL.out; first | omega | (simp; done) | (simp; omega)) ?_
                intro vN2 wN2 hR hB hg hat
                replace hg : World.grownBy _ _ (Value.slice (some ⟨we.heap.size, 0, none⟩) 0 0).ownBlock := hg
                have RN2 := Aside0.mk hR
                have HN2 := Aside0.mk hB
                clear hR hB hg hat hHeld
                refine hK.out _ _ HN2.out (fun hHeld => ?_)
                clear hK K
                try simp only [putL, putN, List.set]
                refine wpAnyH_ready (rs := [9]) (by kernel_rfl) (by simp) ?_
                refine AllReadyH.cons rfl (fun K hK => ?_) AllReadyH.nil
                · skip
                  go_simp
                  have BN3 : Aside0 (Below wN2.heap.size wN2 (wN2.alloc (.cells #[.int .i64 x.1, .int .i64 x.2] 29))) := ⟨(Below.refl _ _).alloc (Nat.le_refl _) _⟩
                  have HN3 : Aside0 (Below wd.heap.size wd (wN2.alloc (.cells #[.int .i64 x.1, .int .i64 x.2] 29))) := ⟨HN2.out.alloc HN2.out.size _⟩
                  have RN3 := Aside0.mk (Kd.R_below RN2.out BN3.out)
                  have XN3 : Aside0 ((wN2.alloc (.cells #[.int .i64 x.1, .int .i64 x.2] 29)).heap[wN2.heap.size]? = some (Obj.cells (cS x) 29 (0, 0))) := ⟨by have := World.alloc_heap_new wN2 (.cells #[.int .i64 x.1, .int .i64 x.2] 29); first | exact this | (rwa [World.size_alloc] at this)⟩
                  clear hHeld
                  refine hK.out _ _ HN3.out (fun hHeld => ?_)
                  clear hK K
                  refine wpAnyH_ready (rs := [10]) (by kernel_rfl) (by simp) ?_
                  refine AllReadyH.cons rfl (fun K hK => ?_) AllReadyH.nil
                  refine Kd.R_append_rows_step kS (w0 := wd) wd.heap.size (by rfl) (.tmp 49) (.tmp 54) 52 29 _ 16 rfl Try.underlying52 infoS29 rfl (by decide) (by decide) _ (([] : List St).take (([] : List St).length)) ([x]) _ _ _ (fun _ => True) (fun _ => False) rfl rfl RN3.out (one_C XN3.out) (fun x cs h => K_M x cs h) (fun _ h => h.elim) (fun _ _ => trivial) HN3.out HN3.out.size (by rw [List.length_take]; have := HTL.out; first | omega | (simp; done) | (simp; omega)) ?_
                  intro vA4 wA4 hR hB hg hat
                  have RA4 := Aside0.mk hR
                  have BA4 := Aside0.mk hB
                  clear hR hB hg hat hHeld
                  refine hK.out _ _ BA4.out (fun hHeld => ?_)
                  clear hK K
                  try simp only [putL, putN, List.set]
                  refine wpAnyH_ready (rs := [14]) (by kernel_rfl) (by simp) ?_
                  refine AllReadyH.cons rfl (fun K hK => ?_) AllReadyH.nil
                  refine Kd.R_append_rows_step kS (w0 := wd) wd.heap.size (by rfl) (.tmp 55) (.tmp 58) 52 29 _ 16 rfl Try.underlying52 infoS29 rfl (by decide) (by decide) _ (([] : List St).take (([] : List St).length) ++ [x]) ([]) _ _ _ (fun _ => True) (fun _ => False) rfl rfl RA4.out (C_zero (BA4.out) _) (fun x cs h => K_M x cs h) (fun _ h => h.elim) (fun _ _ => trivial) BA4.out BA4.out.size (by rw [List.length_append, List.length_take, List.length_singleton]; have := HTL.out; first | omega | (simp; done) | (simp; omega)) ?_
                  intro vB4 wB4 hR hB hg hat
                  have RB4 := Aside0.mk hR
                  have BB4 := Aside0.mk hB
                  clear hR hB hg hat hHeld
                  refine hK.out _ _ BB4.out (fun hHeld => ?_)
                  clear hK K
                  try simp only [putL, putN, List.set]
                  refine tk (i := 15) (v := _) 3 rfl (Or.inl ⟨by rfl, fun w' hW => by go_simp; try (first | with_reducible rfl | rfl)⟩) hHeld ?_
                  try simp only [putL, putN, List.set]
                  refine wpAnyH_done (by kernel_rfl) ?_ _
                  clear hHeld
                  go_wp2_with fail
                  refine ⟨⟨m + 1, ([] : List St).take ([] : List St).length ++ [x] ++ [], by first | rfl | (rw [hw]; rfl), ?_⟩, by first | exact HH.out | (rw [hw]; exact HH.out)⟩
                  have e : ([] : List St).take ([] : List St).length ++ [x] ++ [] = insK (0, 0) ([] : List St) x ([] : List St).length := by unfold insK; rw [if_pos (.inl rfl), List.append_nil, List.drop_length]
                  have hb : Below w.heap.size w wd := hS.out.b.trans (HBD.out.mono hS.out.b.size)
                  refine ⟨⟨hb.trans (BB4.out.mono hb.size), by have := H1.out; omega, Kd.R_lower RB4.out hb.size, ?_, ?_, ?_⟩⟩
                  · rw [e]; exact insK_strict ltS (0, 0) ltS_tr ltS_tot _ x _ (Nat.le_refl _) hS.out.st hS2.out.2.2 (fun hi => absurd hi (Nat.lt_irrefl _))
                  · exact HST.out _ (fun z => by rw [e]; exact insK_mem (0, 0) _ x _ (Nat.le_refl _) z)
                  · rw [e]; have := insK_len ([] : List St) x ([] : List St).length (Nat.le_refl _); have := hS.out.len; omega
              · skip
                go_simp
                have BN5 : Aside0 (Below (we.alloc (.cells #[] 29)).heap.size (we.alloc (.cells #[] 29)) ((we.alloc (.cells #[] 29)).alloc (.cells #[.int .i64 x.1, .int .i64 x.2] 29))) := ⟨(Below.refl _ _).alloc (Nat.le_refl _) _⟩
                have HN5 : Aside0 (Below wd.heap.size wd ((we.alloc (.cells #[] 29)).alloc (.cells #[.int .i64 x.1, .int .i64 x.2] 29))) := ⟨HN1.out.alloc HN1.out.size _⟩
                have RN5 := Aside0.mk (Kd.R_below RN1.out BN5.out)
                have XN5 : Aside0 (((we.alloc (.cells #[] 29)).alloc (.cells #[.int .i64 x.1, .int .i64 x.2] 29)).heap[we.heap.size + 1]? = some (Obj.cells (cS x) 29 (0, 0))) := ⟨by have := World.alloc_heap_new (we.alloc (.cells #[] 29)) (.cells #[.int .i64 x.1, .int .i64 x.2] 29); first | exact this | (rwa [World.size_alloc] at this)⟩
                clear hHeld
                refine hK.out _ _ HN5.out (fun hHeld => ?_)
                clear hK K
                refine wpAnyH_ready (rs := [4]) (by kernel_rfl) (by simp) ?_
                refine AllReadyH.cons rfl (fun K hK => ?_) AllReadyH.nil
                · skip
                  refine Kd.R_append_rows_step kS (w0 := wd) wd.heap.size (by rfl) (.tmp 45) (.tmp 48) 52 29 _ 16 rfl Try.underlying52 infoS29 rfl (by decide) (by decide) _ ([]) (([] : List St).take (([] : List St).length)) _ _ _ (fun _ => True) (fun _ => False) rfl rfl RN5.out (C_take2 (Kd.C_below HCT.out.2 (HBD.out.trans (HN5.out.mono HBD.out.size))) ([] : List St).length (Nat.le_refl _)) (fun x cs h => K_M x cs h) (fun _ h => h.elim) (fun _ _ => trivial) HN5.out HN5.out.size (by have := HTL.out; first | omega | (simp; done) | (simp; omega)) ?_
                  intro vN6 wN6 hR hB hg hat
                  replace hg : World.grownBy _ _ (Value.slice (some ⟨we.heap.size, 0, none⟩) 0 0).ownBlock := hg
                  have RN6 := Aside0.mk hR
                  have HN6 := Aside0.mk hB
                  have XN6 : Aside0 (wN6.heap[we.heap.size + 1]? = some (Obj.cells (cS x) 29 (0, 0))) := ⟨(hg.block _ (Array.getElem?_eq_some_iff.1 XN5.out).1 (by simp [Value.ownBlock, World.size_alloc])).trans XN5.out⟩
                  clear hR hB hg hat hHeld
                  refine hK.out _ _ HN6.out (fun hHeld => ?_)
                  clear hK K
                  try simp only [putL, putN, List.set]
                  refine wpAnyH_ready (rs := [10]) (by kernel_rfl) (by simp) ?_
                  refine AllReadyH.cons rfl (fun K hK => ?_) AllReadyH.nil
                  refine Kd.R_append_rows_step kS (w0 := wd) wd.heap.size (by rfl) (.tmp 49) (.tmp 54) 52 29 _ 16 rfl Try.underlying52 infoS29 rfl (by decide) (by decide) _ (([] : List St).take (([] : List St).length)) ([x]) _ _ _ (fun _ => True) (fun _ => False) rfl rfl RN6.out (one_C XN6.out) (fun x cs h => K_M x cs h) (fun _ h => h.elim) (fun _ _ => trivial) HN6.out HN6.out.size (by rw [List.length_take]; have := HTL.out; first | omega | (simp; done) | (simp; omega)) ?_
                  intro vA7 wA7 hR hB hg hat
                  have RA7 := Aside0.mk hR
                  have BA7 := Aside0.mk hB
                  clear hR hB hg hat hHeld
                  refine hK.out _ _ BA7.out (fun hHeld => ?_)
                  clear hK K
                  try simp only [putL, putN, List.set]
                  refine wpAnyH_ready (rs := [14]) (by kernel_rfl) (by simp) ?_
                  refine AllReadyH.cons rfl (fun K hK => ?_) AllReadyH.nil
                  refine Kd.R_append_rows_step kS (w0 := wd) wd.heap.size (by rfl) (.tmp 55) (.tmp 58) 52 29 _ 16 rfl Try.underlying52 infoS29 rfl (by decide) (by decide) _ (([] : List St).take (([] : List St).length) ++ [x]) ([]) _ _ _ (fun _ => True) (fun _ => False) rfl rfl RA7.out (C_zero (BA7.out) _) (fun x cs h => K_M x cs h) (fun _ h => h.elim) (fun _ _ => trivial) BA7.out BA7.out.size (by rw [List.length_append, List.length_take, List.length_singleton]; have := HTL.out; first | omega | (simp; done) | (simp; omega)) ?_
                  intro vB7 wB7 hR hB hg hat
                  have RB7 := Aside0.mk hR
                  have BB7 := Aside0.mk hB
                  clear hR hB hg hat hHeld
                  refine hK.out _ _ BB7.out (fun hHeld => ?_)
                  clear hK K
                  try simp only [putL, putN, List.set]
                  refine tk (i := 15) (v := _) 3 rfl (Or.inl ⟨by rfl, fun w' hW => by go_simp; try (first | with_reducible rfl | rfl)⟩) hHeld ?_
                  try simp only [putL, putN, List.set]
                  refine wpAnyH_done (by kernel_rfl) ?_ _
                  clear hHeld
                  go_wp2_with fail
                  refine ⟨⟨m + 1, ([] : List St).take ([] : List St).length ++ [x] ++ [], by first | rfl | (rw [hw]; rfl), ?_⟩, by first | exact HH.out | (rw [hw]; exact HH.out)⟩
                  have e : ([] : List St).take ([] : List St).length ++ [x] ++ [] = insK (0, 0) ([] : List St) x ([] : List St).length := by unfold insK; rw [if_pos (.inl rfl), List.append_nil, List.drop_length]
                  have hb : Below w.heap.size w wd := hS.out.b.trans (HBD.out.mono hS.out.b.size)
                  refine ⟨⟨hb.trans (BB7.out.mono hb.size), by have := H1.out; omega, Kd.R_lower RB7.out hb.size, ?_, ?_, ?_⟩⟩
                  · rw [e]; exact insK_strict ltS (0, 0) ltS_tr ltS_tot _ x _ (Nat.le_refl _) hS.out.st hS2.out.2.2 (fun hi => absurd hi (Nat.lt_irrefl _))
                  · exact HST.out _ (fun z => by rw [e]; exact insK_mem (0, 0) _ x _ (Nat.le_refl _) z)
                  · rw [e]; have := insK_len ([] : List St) x ([] : List St).length (Nat.le_refl _); have := hS.out.len; omega
            · skip
              go_simp
              have BN8 : Aside0 (Below we.heap.size we (we.alloc (.cells #[.int .i64 x.1, .int .i64 x.2] 29))) := ⟨(Below.refl _ _).alloc (Nat.le_refl _) _⟩
              have HN8 : Aside0 (Below wd.heap.size wd (we.alloc (.cells #[.int .i64 x.1, .int .i64 x.2] 29))) := ⟨N9.out.alloc N9.out.size _⟩
              have XN8 : Aside0 ((we.alloc (.cells #[.int .i64 x.1, .int .i64 x.2] 29)).heap[we.heap.size]? = some (Obj.cells (cS x) 29 (0, 0))) := ⟨by have := World.alloc_heap_new we (.cells #[.int .i64 x.1, .int .i64 x.2] 29); first | exact this | (rwa [World.size_alloc] at this)⟩
              clear hHeld
              refine hK.out _ _ HN8.out (fun hHeld => ?_)
              clear hK K
              refine wpAnyH_ready (rs := [0]) (by kernel_rfl) (by simp) ?_
              refine AllReadyH.cons rfl (fun K hK => ?_) AllReadyH.nil
              · skip
                go_simp
                have BN9 : Aside0 (Below (we.alloc (.cells #[.int .i64 x.1, .int .i64 x.2] 29)).heap.size (we.alloc (.cells #[.int .i64 x.1, .int .i64 x.2] 29)) ((we.alloc (.cells #[.int .i64 x.1, .int .i64 x.2] 29)).alloc (.cells #[] 29))) := ⟨(Below.refl _ _).alloc (Nat.le_refl _) _⟩
                have HN9 : Aside0 (Below wd.heap.size wd ((we.alloc (.cells #[.int .i64 x.1, .int .i64 x.2] 29)).alloc (.cells #[] 29))) := ⟨HN8.out.alloc HN8.out.size _⟩
                have RN9 : Aside0 (Kd.R kS 29 ((we.alloc (.cells #[.int .i64 x.1, .int .i64 x.2] 29)).alloc (.cells #[] 29)) wd.heap.size (fun _ => True) (.slice (some ⟨we.heap.size + 1, 0, none⟩) 0 0) []) := ⟨by have := R_empty (we.alloc (.cells #[.int .i64 x.1, .int .i64 x.2] 29)) wd.heap.size HN8.out.size; first | exact this | (rwa [World.size_alloc] at this)⟩
                have XN9 := Aside0.mk (obj_below BN9.out XN8.out)
                clear hHeld
                refine hK.out _ _ HN9.out (fun hHeld => ?_)
                clear hK K
                refine wpAnyH_ready (rs := [4]) (by kernel_rfl) (by simp) ?_
                refine AllReadyH.cons rfl (fun K hK => ?_) AllReadyH.nil
                · skip
                  refine Kd.R_append_rows_step kS (w0 := wd) wd.heap.size (by rfl) (.tmp 45) (.tmp 48) 52 29 _ 16 rfl Try.underlying52 infoS29 rfl (by decide) (by decide) _ ([]) (([] : List St).take (([] : List St).length)) _ _ _ (fun _ => True) (fun _ => False) rfl rfl RN9.out (C_take2 (Kd.C_below HCT.out.2 (HBD.out.trans (HN9.out.mono HBD.out.size))) ([] : List St).length (Nat.le_refl _)) (fun x cs h => K_M x cs h) (fun _ h => h.elim) (fun _ _ => trivial) HN9.out HN9.out.size (by have := HTL.out; first | omega | (simp; done) | (simp; omega)) ?_
                  intro vN10 wN10 hR hB hg hat
                  replace hg : World.grownBy _ _ (Value.slice (some ⟨we.heap.size + 1, 0, none⟩) 0 0).ownBlock := hg
                  have RN10 := Aside0.mk hR
                  have HN10 := Aside0.mk hB
                  have XN10 : Aside0 (wN10.heap[we.heap.size]? = some (Obj.cells (cS x) 29 (0, 0))) := ⟨(hg.block _ (Array.getElem?_eq_some_iff.1 XN9.out).1 (by simp [Value.ownBlock, World.size_alloc])).trans XN9.out⟩
                  clear hR hB hg hat hHeld
                  refine hK.out _ _ HN10.out (fun hHeld => ?_)
                  clear hK K
                  try simp only [putL, putN, List.set]
                  refine wpAnyH_ready (rs := [10]) (by kernel_rfl) (by simp) ?_
                  refine AllReadyH.cons rfl (fun K hK => ?_) AllReadyH.nil
                  refine Kd.R_append_rows_step kS (w0 := wd) wd.heap.size (by rfl) (.tmp 49) (.tmp 54) 52 29 _ 16 rfl Try.underlying52 infoS29 rfl (by decide) (by decide) _ (([] : List St).take (([] : List St).length)) ([x]) _ _ _ (fun _ => True) (fun _ => False) rfl rfl RN10.out (one_C XN10.out) (fun x cs h => K_M x cs h) (fun _ h => h.elim) (fun _ _ => trivial) HN10.out HN10.out.size (by rw [List.length_take]; have := HTL.out; first | omega | (simp; done) | (simp; omega)) ?_
                  intro vA11 wA11 hR hB hg hat
                  have RA11 := Aside0.mk hR
                  have BA11 := Aside0.mk hB
                  clear hR hB hg hat hHeld
                  refine hK.out _ _ BA11.out (fun hHeld => ?_)
                  clear hK K
                  try simp only [putL, putN, List.set]
                  refine wpAnyH_ready (rs := [14]) (by kernel_rfl) (by simp) ?_
                  refine AllReadyH.cons rfl (fun K hK => ?_) AllReadyH.nil
                  refine Kd.R_append_rows_step kS (w0 := wd) wd.heap.size (by rfl) (.tmp 55) (.tmp 58) 52 29 _ 16 rfl Try.underlying52 infoS29 rfl (by decide) (by decide) _ (([] : List St).take (([] : List St).length) ++ [x]) ([]) _ _ _ (fun _ => True) (fun _ => False) rfl rfl RA11.out (C_zero (BA11.out) _) (fun x cs h => K_M x cs h) (fun _ h => h.elim) (fun _ _ => trivial) BA11.out BA11.out.size (by rw [List.length_append, List.length_take, List.length_singleton]; have := HTL.out; first | omega | (simp; done) | (simp; omega)) ?_
                  intro vB11 wB11 hR hB hg hat
                  have RB11 := Aside0.mk hR
                  have BB11 := Aside0.mk hB
                  clear hR hB hg hat hHeld
                  refine hK.out _ _ BB11.out (fun hHeld => ?_)
                  clear hK K
                  try simp only [putL, putN, List.set]
                  refine tk (i := 15) (v := _) 3 rfl (Or.inl ⟨by rfl, fun w' hW => by go_simp; try (first | with_reducible rfl | rfl)⟩) hHeld ?_
                  try simp only [putL, putN, List.set]
                  refine wpAnyH_done (by kernel_rfl) ?_ _
                  clear hHeld
                  go_wp2_with fail
                  refine ⟨⟨m + 1, ([] : List St).take ([] : List St).length ++ [x] ++ [], by first | rfl | (rw [hw]; rfl), ?_⟩, by first | exact HH.out | (rw [hw]; exact HH.out)⟩
                  have e : ([] : List St).take ([] : List St).length ++ [x] ++ [] = insK (0, 0) ([] : List St) x ([] : List St).length := by unfold insK; rw [if_pos (.inl rfl), List.append_nil, List.drop_length]
                  have hb : Below w.heap.size w wd := hS.out.b.trans (HBD.out.mono hS.out.b.size)
                  refine ⟨⟨hb.trans (BB11.out.mono hb.size), by have := H1.out; omega, Kd.R_lower RB11.out hb.size, ?_, ?_, ?_⟩⟩
                  · rw [e]; exact insK_strict ltS (0, 0) ltS_tr ltS_tot _ x _ (Nat.le_refl _) hS.out.st hS2.out.2.2 (fun hi => absurd hi (Nat.lt_irrefl _))
                  · exact HST.out _ (fun z => by rw [e]; exact insK_mem (0, 0) _ x _ (Nat.le_refl _) z)
                  · rw [e]; have := insK_len ([] : List St) x ([] : List St).length (Nat.le_refl _); have := hS.out.len; omega
          | some adT =>
            go_upto_region 6 with fail
            refine wp_region_held_drew (S := fun w' => Below wr.heap.size wr w') (by kernel_rfl) (pw_below_drewN (Below.refl _ _) 1) (fun hHeld => ?_)
            generalize wr.drew = w6 at hHeld ⊢
            refine tk (i := 0) (v := _) 12 rfl (Or.inl ⟨by rfl, fun w' hW => by go_simp; try (first | with_reducible rfl | rfl)⟩) hHeld ?_
            try simp only [putL, putN, List.set]
            refine tk (i := 1) (v := _) 13 rfl (Or.inl ⟨by rfl, fun w' hW => by go_simp; try (first | with_reducible rfl | rfl)⟩) hHeld ?_
            try simp only [putL, putN, List.set]
            refine tk (i := 2) (v := _) 14 rfl (Or.inl ⟨by rfl, fun w' hW => by go_simp; try (first | with_reducible rfl | rfl)⟩) hHeld ?_
            try simp only [putL, putN, List.set]
            refine tk (i := 3) (v := _) 15 rfl (Or.inl ⟨by rfl, fun w' hW => by go_simp; try (first | with_reducible rfl | rfl)⟩) hHeld ?_
            try simp only [putL, putN, List.set]
            refine tk (i := 4) (v := _) 16 rfl (Or.inl ⟨by rfl, fun w' hW => by go_simp; try (first | with_reducible rfl | rfl)⟩) hHeld ?_
            try simp only [putL, putN, List.set]
            refine tk (i := 5) (v := undef) 17 rfl (Or.inr ⟨by rfl, rfl⟩) hHeld ?_
            try simp only [putL, putN, List.set]
            refine tk (i := 6) (v := undef) 18 rfl (Or.inr ⟨by rfl, rfl⟩) hHeld ?_
            try simp only [putL, putN, List.set]
            refine tk (i := 7) (v := undef) 19 rfl (Or.inr ⟨by rfl, rfl⟩) hHeld ?_
            try simp only [putL, putN, List.set]
            refine tk (i := 8) (v := undef) 20 rfl (Or.inr ⟨by rfl, rfl⟩) hHeld ?_
            try simp only [putL, putN, List.set]
            refine tk (i := 9) (v := undef) 21 rfl (Or.inr ⟨by rfl, rfl⟩) hHeld ?_
            try simp only [putL, putN, List.set]
            refine tk (i := 10) (v := undef) 22 rfl (Or.inr ⟨by rfl, rfl⟩) hHeld ?_
            try simp only [putL, putN, List.set]
            refine tk (i := 11) (v := undef) 23 rfl (Or.inr ⟨by rfl, rfl⟩) hHeld ?_
            try simp only [putL, putN, List.set]
            refine tk (i := 12) (v := undef) 24 rfl (Or.inr ⟨by rfl, rfl⟩) hHeld ?_
            try simp only [putL, putN, List.set]
            refine tk (i := 13) (v := undef) 25 rfl (Or.inr ⟨by rfl, rfl⟩) hHeld ?_
            try simp only [putL, putN, List.set]
            refine tk (i := 14) (v := undef) 26 rfl (Or.inr ⟨by rfl, rfl⟩) hHeld ?_
            try simp only [putL, putN, List.set]
            refine tk (i := 15) (v := _) 27 rfl (Or.inl ⟨by rfl, fun w' hW => by go_simp; try (first | with_reducible rfl | rfl)⟩) hHeld ?_
            try simp only [putL, putN, List.set]
            have NC := Aside0.mk hHeld
            refine wpAnyH_done (by kernel_rfl) ?_ _
            clear hHeld
            go_upto_region 8 with fail
            refine wp_region_held_drew (S := fun w' => Below w6.heap.size w6 w') (by kernel_rfl) (pw_below_drewN (Below.refl _ _) 1) (fun hHeld => ?_)
            generalize w6.drew = wd at hHeld ⊢
            refine tk (i := 0) (v := _) 30 rfl (Or.inl ⟨by rfl, fun w' hW => by go_simp; try (first | with_reducible rfl | rfl)⟩) hHeld ?_
            try simp only [putL, putN, List.set]
            refine tk (i := 1) (v := _) 31 rfl (Or.inl ⟨by rfl, fun w' hW => by go_simp; try (first | with_reducible rfl | rfl)⟩) hHeld ?_
            try simp only [putL, putN, List.set]
            refine tk (i := 2) (v := _) 32 rfl (Or.inl ⟨by rfl, fun w' hW => by go_simp; try (first | with_reducible rfl | rfl)⟩) hHeld ?_
            try simp only [putL, putN, List.set]
            refine tk (i := 3) (v := _) 33 rfl (Or.inl ⟨by rfl, fun w' hW => by go_simp; try (first | with_reducible rfl | rfl)⟩) hHeld ?_
            try simp only [putL, putN, List.set]
            refine tk (i := 4) (v := _) 34 rfl (Or.inl ⟨by rfl, fun w' hW => by go_simp; try (first | with_reducible rfl | rfl)⟩) hHeld ?_
            try simp only [putL, putN, List.set]
            refine tk (i := 5) (v := undef) 35 rfl (Or.inr ⟨by rfl, rfl⟩) hHeld ?_
            try simp only [putL, putN, List.set]
            refine tk (i := 6) (v := undef) 36 rfl (Or.inr ⟨by rfl, rfl⟩) hHeld ?_
            try simp only [putL, putN, List.set]
            refine tk (i := 7) (v := undef) 37 rfl (Or.inr ⟨by rfl, rfl⟩) hHeld ?_
            try simp only [putL, putN, List.set]
            refine tk (i := 8) (v := undef) 38 rfl (Or.inr ⟨by rfl, rfl⟩) hHeld ?_
            try simp only [putL, putN, List.set]
            refine tk (i := 9) (v := undef) 39 rfl (Or.inr ⟨by rfl, rfl⟩) hHeld ?_
            try simp only [putL, putN, List.set]
            refine tk (i := 10) (v := undef) 40 rfl (Or.inr ⟨by rfl, rfl⟩) hHeld ?_
            try simp only [putL, putN, List.set]
            refine tk (i := 11) (v := undef) 41 rfl (Or.inr ⟨by rfl, rfl⟩) hHeld ?_
            try simp only [putL, putN, List.set]
            refine tk (i := 12) (v := undef) 42 rfl (Or.inr ⟨by rfl, rfl⟩) hHeld ?_
            try simp only [putL, putN, List.set]
            refine tk (i := 13) (v := undef) 43 rfl (Or.inr ⟨by rfl, rfl⟩) hHeld ?_
            try simp only [putL, putN, List.set]
            refine tk (i := 14) (v := _) 44 rfl (Or.inl ⟨by rfl, fun w' hW => by go_simp; try (first | with_reducible rfl | rfl)⟩) hHeld ?_
            try simp only [putL, putN, List.set]
            have N8 := Aside0.mk (below_step NC.out hHeld)
            refine wpAnyH_done (by kernel_rfl) ?_ _
            clear hHeld
            have HBD : Aside0 (Below wo.heap.size wo wd) := ⟨hS2.out.2.1.trans (N8.out.mono hS2.out.2.1.size)⟩
            have HXD : Aside0 (∀ i v, (cS x).toList[i]? = some v → wd.cell? ((ad.add (m * 2)).add i) = some v) := ⟨fun i v hv => pw_cell_below HBD.out (HX.out i v hv)⟩
            have hct1 : T.length ≤ ct := HCT.out.1
            have hj5 : ((T.length : Int) : Int) ≤ (ct : Int) := by omega
            go_upto_region 9 with fail
            refine wp_region_held_drew (S := fun w' => Below wd.heap.size wd w') (by kernel_rfl) (pw_below_drewN (Below.refl _ _) 1) (fun hHeld => ?_)
            generalize wd.drew = we at hHeld ⊢
            refine tk (i := 1) (v := _) 46 rfl (Or.inl ⟨by rfl, fun w' hW => by go_simp; try (first | with_reducible rfl | rfl)⟩) hHeld ?_
            try simp only [putL, putN, List.set]
            refine tk (i := 2) (v := _) 47 rfl (Or.inl ⟨by rfl, fun w' hW => by go_simp; try (first | with_reducible rfl | rfl)⟩) hHeld ?_
            try simp only [putL, putN, List.set]
            refine tk (i := 5) (v := _) 50 rfl (Or.inl ⟨by rfl, fun w' hW => by go_simp; try (first | with_reducible rfl | rfl)⟩) hHeld ?_
            try simp only [putL, putN, List.set]
            refine tk (i := 6) (v := _) 51 rfl (Or.inl ⟨by rfl, fun w' hW => by go_simp; try (first | with_reducible rfl | rfl)⟩) hHeld ?_
            try simp only [putL, putN, List.set]
            refine tk (i := 11) (v := _) 56 rfl (Or.inl ⟨by rfl, fun w' hW => by go_simp; try (first | with_reducible rfl | rfl)⟩) hHeld ?_
            try simp only [putL, putN, List.set]
            refine tk (i := 12) (v := _) 57 rfl (Or.inl ⟨by rfl, fun w' hW => by go_simp; try (first | with_reducible rfl | rfl)⟩) hHeld ?_
            try simp only [putL, putN, List.set]
            refine tk (i := 3) (v := _) 48 rfl (Or.inl ⟨by rfl, fun w' hW => by go_simp; try (first | with_reducible rfl | rfl)⟩) hHeld ?_
            try simp only [putL, putN, List.set]
            refine tk (i := 13) (v := _) 58 rfl (Or.inl ⟨by rfl, fun w' hW => by go_simp; try (first | with_reducible rfl | rfl)⟩) hHeld ?_
            try simp only [putL, putN, List.set]
            refine tk (i := 7) (v := _) 52 rfl (Or.inl ⟨by rfl, fun w' hW => by go_simp; try (first | with_reducible rfl | rfl)⟩) hHeld ?_
            try simp only [putL, putN, List.set]
            refine tk (i := 8) (v := _) 53 rfl (yields_any (by rfl) 29 (.tmp 52) rfl (ad.add (m * 2)) rfl (cS x) _ (fun w' hW j v hj => pw_cell_below hW (HXD.out j v hj)) Try.underlying29 rfl (by kernel_rfl)) hHeld ?_
            try simp only [putL, putN, List.set]
            have N9 := Aside0.mk hHeld
            refine wpAnyH_ready (rs := [0, 9]) (by kernel_rfl) (by simp) ?_
            refine AllReadyH.cons rfl (fun K hK => ?_) (AllReadyH.cons rfl (fun K hK => ?_) AllReadyH.nil)
            · skip
              go_simp
              have BN12 : Aside0 (Below we.heap.size we (we.alloc (.cells #[] 29))) := ⟨(Below.refl _ _).alloc (Nat.le_refl _) _⟩
              have HN12 : Aside0 (Below wd.heap.size wd (we.alloc (.cells #[] 29))) := ⟨N9.out.alloc N9.out.size _⟩
              have RN12 : Aside0 (Kd.R kS 29 (we.alloc (.cells #[] 29)) wd.heap.size (fun _ => True) (.slice (some ⟨we.heap.size, 0, none⟩) 0 0) []) := ⟨by have := R_empty we wd.heap.size N9.out.size; first | exact this | (rwa [World.size_alloc] at this)⟩
              clear hHeld
              refine hK.out _ _ HN12.out (fun hHeld => ?_)
              clear hK K
              refine wpAnyH_ready (rs := [4, 9]) (by kernel_rfl) (by simp) ?_
              refine AllReadyH.cons rfl (fun K hK => ?_) (AllReadyH.cons rfl (fun K hK => ?_) AllReadyH.nil)
              · skip
                refine Kd.R_append_rows_step kS (w0 := wd) wd.heap.size (by rfl) (.tmp 45) (.tmp 48) 52 29 _ 16 rfl Try.underlying52 infoS29 rfl (by decide) (by decide) _ ([]) (T.take (T.length)) _ _ _ (fun _ => True) (fun _ => False) rfl rfl RN12.out (C_take2 (Kd.C_below HCT.out.2 (HBD.out.trans (HN12.out.mono HBD.out.size))) T.length (Nat.le_refl _)) (fun x cs h => K_M x cs h) (fun _ h => h.elim) (fun _ _ => trivial) HN12.out HN12.out.size (by have := HTL.out; first | omega | (simp; done) | (simp; omega)) ?_
                intro vN13 wN13 hR hB hg hat
                replace hg : World.grownBy _ _ (Value.slice (some ⟨we.heap.size, 0, none⟩) 0 0).ownBlock := hg
                have RN13 := Aside0.mk hR
                have HN13 := Aside0.mk hB
                clear hR hB hg hat hHeld
                refine hK.out _ _ HN13.out (fun hHeld => ?_)
                clear hK K
                try simp only [putL, putN, List.set]
                refine wpAnyH_ready (rs := [9]) (by kernel_rfl) (by simp) ?_
                refine AllReadyH.cons rfl (fun K hK => ?_) AllReadyH.nil
                · skip
                  go_simp
                  have BN14 : Aside0 (Below wN13.heap.size wN13 (wN13.alloc (.cells #[.int .i64 x.1, .int .i64 x.2] 29))) := ⟨(Below.refl _ _).alloc (Nat.le_refl _) _⟩
                  have HN14 : Aside0 (Below wd.heap.size wd (wN13.alloc (.cells #[.int .i64 x.1, .int .i64 x.2] 29))) := ⟨HN13.out.alloc HN13.out.size _⟩
                  have RN14 := Aside0.mk (Kd.R_below RN13.out BN14.out)
                  have XN14 : Aside0 ((wN13.alloc (.cells #[.int .i64 x.1, .int .i64 x.2] 29)).heap[wN13.heap.size]? = some (Obj.cells (cS x) 29 (0, 0))) := ⟨by have := World.alloc_heap_new wN13 (.cells #[.int .i64 x.1, .int .i64 x.2] 29); first | exact this | (rwa [World.size_alloc] at this)⟩
                  clear hHeld
                  refine hK.out _ _ HN14.out (fun hHeld => ?_)
                  clear hK K
                  refine wpAnyH_ready (rs := [10]) (by kernel_rfl) (by simp) ?_
                  refine AllReadyH.cons rfl (fun K hK => ?_) AllReadyH.nil
                  refine Kd.R_append_rows_step kS (w0 := wd) wd.heap.size (by rfl) (.tmp 49) (.tmp 54) 52 29 _ 16 rfl Try.underlying52 infoS29 rfl (by decide) (by decide) _ (T.take (T.length)) ([x]) _ _ _ (fun _ => True) (fun _ => False) rfl rfl RN14.out (one_C XN14.out) (fun x cs h => K_M x cs h) (fun _ h => h.elim) (fun _ _ => trivial) HN14.out HN14.out.size (by rw [List.length_take]; have := HTL.out; first | omega | (simp; done) | (simp; omega)) ?_
                  intro vA15 wA15 hR hB hg hat
                  have RA15 := Aside0.mk hR
                  have BA15 := Aside0.mk hB
                  clear hR hB hg hat hHeld
                  refine hK.out _ _ BA15.out (fun hHeld => ?_)
                  clear hK K
                  try simp only [putL, putN, List.set]
                  refine wpAnyH_ready (rs := [14]) (by kernel_rfl) (by simp) ?_
                  refine AllReadyH.cons rfl (fun K hK => ?_) AllReadyH.nil
                  refine Kd.R_append_rows_step kS (w0 := wd) wd.heap.size (by rfl) (.tmp 55) (.tmp 58) 52 29 _ 16 rfl Try.underlying52 infoS29 rfl (by decide) (by decide) _ (T.take (T.length) ++ [x]) ([]) _ _ _ (fun _ => True) (fun _ => False) rfl rfl RA15.out (C_zero (BA15.out) _) (fun x cs h => K_M x cs h) (fun _ h => h.elim) (fun _ _ => trivial) BA15.out BA15.out.size (by rw [List.length_append, List.length_take, List.length_singleton]; have := HTL.out; first | omega | (simp; done) | (simp; omega)) ?_
                  intro vB15 wB15 hR hB hg hat
                  have RB15 := Aside0.mk hR
                  have BB15 := Aside0.mk hB
                  clear hR hB hg hat hHeld
                  refine hK.out _ _ BB15.out (fun hHeld => ?_)
                  clear hK K
                  try simp only [putL, putN, List.set]
                  refine tk (i := 15) (v := _) 3 rfl (Or.inl ⟨by rfl, fun w' hW => by go_simp; try (first | with_reducible rfl | rfl)⟩) hHeld ?_
                  try simp only [putL, putN, List.set]
                  refine wpAnyH_done (by kernel_rfl) ?_ _
                  clear hHeld
                  go_wp2_with fail
                  refine ⟨⟨m + 1, T.take T.length ++ [x] ++ [], by first | rfl | (rw [hw]; rfl), ?_⟩, by first | exact HH.out | (rw [hw]; exact HH.out)⟩
                  have e : T.take T.length ++ [x] ++ [] = insK (0, 0) T x T.length := by unfold insK; rw [if_pos (.inl rfl), List.append_nil, List.drop_length]
                  have hb : Below w.heap.size w wd := hS.out.b.trans (HBD.out.mono hS.out.b.size)
                  refine ⟨⟨hb.trans (BB15.out.mono hb.size), by have := H1.out; omega, Kd.R_lower RB15.out hb.size, ?_, ?_, ?_⟩⟩
                  · rw [e]; exact insK_strict ltS (0, 0) ltS_tr ltS_tot _ x _ (Nat.le_refl _) hS.out.st hS2.out.2.2 (fun hi => absurd hi (Nat.lt_irrefl _))
                  · exact HST.out _ (fun z => by rw [e]; exact insK_mem (0, 0) _ x _ (Nat.le_refl _) z)
                  · rw [e]; have := insK_len T x T.length (Nat.le_refl _); have := hS.out.len; omega
              · skip
                go_simp
                have BN16 : Aside0 (Below (we.alloc (.cells #[] 29)).heap.size (we.alloc (.cells #[] 29)) ((we.alloc (.cells #[] 29)).alloc (.cells #[.int .i64 x.1, .int .i64 x.2] 29))) := ⟨(Below.refl _ _).alloc (Nat.le_refl _) _⟩
                have HN16 : Aside0 (Below wd.heap.size wd ((we.alloc (.cells #[] 29)).alloc (.cells #[.int .i64 x.1, .int .i64 x.2] 29))) := ⟨HN12.out.alloc HN12.out.size _⟩
                have RN16 := Aside0.mk (Kd.R_below RN12.out BN16.out)
                have XN16 : Aside0 (((we.alloc (.cells #[] 29)).alloc (.cells #[.int .i64 x.1, .int .i64 x.2] 29)).heap[we.heap.size + 1]? = some (Obj.cells (cS x) 29 (0, 0))) := ⟨by have := World.alloc_heap_new (we.alloc (.cells #[] 29)) (.cells #[.int .i64 x.1, .int .i64 x.2] 29); first | exact this | (rwa [World.size_alloc] at this)⟩
                clear hHeld
                refine hK.out _ _ HN16.out (fun hHeld => ?_)
                clear hK K
                refine wpAnyH_ready (rs := [4]) (by kernel_rfl) (by simp) ?_
                refine AllReadyH.cons rfl (fun K hK => ?_) AllReadyH.nil
                · skip
                  refine Kd.R_append_rows_step kS (w0 := wd) wd.heap.size (by rfl) (.tmp 45) (.tmp 48) 52 29 _ 16 rfl Try.underlying52 infoS29 rfl (by decide) (by decide) _ ([]) (T.take (T.length)) _ _ _ (fun _ => True) (fun _ => False) rfl rfl RN16.out (C_take2 (Kd.C_below HCT.out.2 (HBD.out.trans (HN16.out.mono HBD.out.size))) T.length (Nat.le_refl _)) (fun x cs h => K_M x cs h) (fun _ h => h.elim) (fun _ _ => trivial) HN16.out HN16.out.size (by have := HTL.out; first | omega | (simp; done) | (simp; omega)) ?_
                  intro vN17 wN17 hR hB hg hat
                  replace hg : World.grownBy _ _ (Value.slice (some ⟨we.heap.size, 0, none⟩) 0 0).ownBlock := hg
                  have RN17 := Aside0.mk hR
                  have HN17 := Aside0.mk hB
                  have XN17 : Aside0 (wN17.heap[we.heap.size + 1]? = some (Obj.cells (cS x) 29 (0, 0))) := ⟨(hg.block _ (Array.getElem?_eq_some_iff.1 XN16.out).1 (by simp [Value.ownBlock, World.size_alloc])).trans XN16.out⟩
                  clear hR hB hg hat hHeld
                  refine hK.out _ _ HN17.out (fun hHeld => ?_)
                  clear hK K
                  try simp only [putL, putN, List.set]
                  refine wpAnyH_ready (rs := [10]) (by kernel_rfl) (by simp) ?_
                  refine AllReadyH.cons rfl (fun K hK => ?_) AllReadyH.nil
                  refine Kd.R_append_rows_step kS (w0 := wd) wd.heap.size (by rfl) (.tmp 49) (.tmp 54) 52 29 _ 16 rfl Try.underlying52 infoS29 rfl (by decide) (by decide) _ (T.take (T.length)) ([x]) _ _ _ (fun _ => True) (fun _ => False) rfl rfl RN17.out (one_C XN17.out) (fun x cs h => K_M x cs h) (fun _ h => h.elim) (fun _ _ => trivial) HN17.out HN17.out.size (by rw [List.length_take]; have := HTL.out; first | omega | (simp; done) | (simp; omega)) ?_
                  intro vA18 wA18 hR hB hg hat
                  have RA18 := Aside0.mk hR
                  have BA18 := Aside0.mk hB
                  clear hR hB hg hat hHeld
                  refine hK.out _ _ BA18.out (fun hHeld => ?_)
                  clear hK K
                  try simp only [putL, putN, List.set]
                  refine wpAnyH_ready (rs := [14]) (by kernel_rfl) (by simp) ?_
                  refine AllReadyH.cons rfl (fun K hK => ?_) AllReadyH.nil
                  refine Kd.R_append_rows_step kS (w0 := wd) wd.heap.size (by rfl) (.tmp 55) (.tmp 58) 52 29 _ 16 rfl Try.underlying52 infoS29 rfl (by decide) (by decide) _ (T.take (T.length) ++ [x]) ([]) _ _ _ (fun _ => True) (fun _ => False) rfl rfl RA18.out (C_zero (BA18.out) _) (fun x cs h => K_M x cs h) (fun _ h => h.elim) (fun _ _ => trivial) BA18.out BA18.out.size (by rw [List.length_append, List.length_take, List.length_singleton]; have := HTL.out; first | omega | (simp; done) | (simp; omega)) ?_
                  intro vB18 wB18 hR hB hg hat
                  have RB18 := Aside0.mk hR
                  have BB18 := Aside0.mk hB
                  clear hR hB hg hat hHeld
                  refine hK.out _ _ BB18.out (fun hHeld => ?_)
                  clear hK K
                  try simp only [putL, putN, List.set]
                  refine tk (i := 15) (v := _) 3 rfl (Or.inl ⟨by rfl, fun w' hW => by go_simp; try (first | with_reducible rfl | rfl)⟩) hHeld ?_
                  try simp only [putL, putN, List.set]
                  refine wpAnyH_done (by kernel_rfl) ?_ _
                  clear hHeld
                  go_wp2_with fail
                  refine ⟨⟨m + 1, T.take T.length ++ [x] ++ [], by first | rfl | (rw [hw]; rfl), ?_⟩, by first | exact HH.out | (rw [hw]; exact HH.out)⟩
                  have e : T.take T.length ++ [x] ++ [] = insK (0, 0) T x T.length := by unfold insK; rw [if_pos (.inl rfl), List.append_nil, List.drop_length]
                  have hb : Below w.heap.size w wd := hS.out.b.trans (HBD.out.mono hS.out.b.size)
                  refine ⟨⟨hb.trans (BB18.out.mono hb.size), by have := H1.out; omega, Kd.R_lower RB18.out hb.size, ?_, ?_, ?_⟩⟩
                  · rw [e]; exact insK_strict ltS (0, 0) ltS_tr ltS_tot _ x _ (Nat.le_refl _) hS.out.st hS2.out.2.2 (fun hi => absurd hi (Nat.lt_irrefl _))
                  · exact HST.out _ (fun z => by rw [e]; exact insK_mem (0, 0) _ x _ (Nat.le_refl _) z)
                  · rw [e]; have := insK_len T x T.length (Nat.le_refl _); have := hS.out.len; omega
            · skip
              go_simp
              have BN19 : Aside0 (Below we.heap.size we (we.alloc (.cells #[.int .i64 x.1, .int .i64 x.2] 29))) := ⟨(Below.refl _ _).alloc (Nat.le_refl _) _⟩
              have HN19 : Aside0 (Below wd.heap.size wd (we.alloc (.cells #[.int .i64 x.1, .int .i64 x.2] 29))) := ⟨N9.out.alloc N9.out.size _⟩
              have XN19 : Aside0 ((we.alloc (.cells #[.int .i64 x.1, .int .i64 x.2] 29)).heap[we.heap.size]? = some (Obj.cells (cS x) 29 (0, 0))) := ⟨by have := World.alloc_heap_new we (.cells #[.int .i64 x.1, .int .i64 x.2] 29); first | exact this | (rwa [World.size_alloc] at this)⟩
              clear hHeld
              refine hK.out _ _ HN19.out (fun hHeld => ?_)
              clear hK K
              refine wpAnyH_ready (rs := [0]) (by kernel_rfl) (by simp) ?_
              refine AllReadyH.cons rfl (fun K hK => ?_) AllReadyH.nil
              · skip
                go_simp
                have BN20 : Aside0 (Below (we.alloc (.cells #[.int .i64 x.1, .int .i64 x.2] 29)).heap.size (we.alloc (.cells #[.int .i64 x.1, .int .i64 x.2] 29)) ((we.alloc (.cells #[.int .i64 x.1, .int .i64 x.2] 29)).alloc (.cells #[] 29))) := ⟨(Below.refl _ _).alloc (Nat.le_refl _) _⟩
                have HN20 : Aside0 (Below wd.heap.size wd ((we.alloc (.cells #[.int .i64 x.1, .int .i64 x.2] 29)).alloc (.cells #[] 29))) := ⟨HN19.out.alloc HN19.out.size _⟩
                have RN20 : Aside0 (Kd.R kS 29 ((we.alloc (.cells #[.int .i64 x.1, .int .i64 x.2] 29)).alloc (.cells #[] 29)) wd.heap.size (fun _ => True) (.slice (some ⟨we.heap.size + 1, 0, none⟩) 0 0) []) := ⟨by have := R_empty (we.alloc (.cells #[.int .i64 x.1, .int .i64 x.2] 29)) wd.heap.size HN19.out.size; first | exact this | (rwa [World.size_alloc] at this)⟩
                have XN20 := Aside0.mk (obj_below BN20.out XN19.out)
                clear hHeld
                refine hK.out _ _ HN20.out (fun hHeld => ?_)
                clear hK K
                refine wpAnyH_ready (rs := [4]) (by kernel_rfl) (by simp) ?_
                refine AllReadyH.cons rfl (fun K hK => ?_) AllReadyH.nil
                · skip
                  refine Kd.R_append_rows_step kS (w0 := wd) wd.heap.size (by rfl) (.tmp 45) (.tmp 48) 52 29 _ 16 rfl Try.underlying52 infoS29 rfl (by decide) (by decide) _ ([]) (T.take (T.length)) _ _ _ (fun _ => True) (fun _ => False) rfl rfl RN20.out (C_take2 (Kd.C_below HCT.out.2 (HBD.out.trans (HN20.out.mono HBD.out.size))) T.length (Nat.le_refl _)) (fun x cs h => K_M x cs h) (fun _ h => h.elim) (fun _ _ => trivial) HN20.out HN20.out.size (by have := HTL.out; first | omega | (simp; done) | (simp; omega)) ?_
                  intro vN21 wN21 hR hB hg hat
                  replace hg : World.grownBy _ _ (Value.slice (some ⟨we.heap.size + 1, 0, none⟩) 0 0).ownBlock := hg
                  have RN21 := Aside0.mk hR
                  have HN21 := Aside0.mk hB
                  have XN21 : Aside0 (wN21.heap[we.heap.size]? = some (Obj.cells (cS x) 29 (0, 0))) := ⟨(hg.block _ (Array.getElem?_eq_some_iff.1 XN20.out).1 (by simp [Value.ownBlock, World.size_alloc])).trans XN20.out⟩
                  clear hR hB hg hat hHeld
                  refine hK.out _ _ HN21.out (fun hHeld => ?_)
                  clear hK K
                  try simp only [putL, putN, List.set]
                  refine wpAnyH_ready (rs := [10]) (by kernel_rfl) (by simp) ?_
                  refine AllReadyH.cons rfl (fun K hK => ?_) AllReadyH.nil
                  refine Kd.R_append_rows_step kS (w0 := wd) wd.heap.size (by rfl) (.tmp 49) (.tmp 54) 52 29 _ 16 rfl Try.underlying52 infoS29 rfl (by decide) (by decide) _ (T.take (T.length)) ([x]) _ _ _ (fun _ => True) (fun _ => False) rfl rfl RN21.out (one_C XN21.out) (fun x cs h => K_M x cs h) (fun _ h => h.elim) (fun _ _ => trivial) HN21.out HN21.out.size (by rw [List.length_take]; have := HTL.out; first | omega | (simp; done) | (simp; omega)) ?_
                  intro vA22 wA22 hR hB hg hat
                  have RA22 := Aside0.mk hR
                  have BA22 := Aside0.mk hB
                  clear hR hB hg hat hHeld
                  refine hK.out _ _ BA22.out (fun hHeld => ?_)
                  clear hK K
                  try simp only [putL, putN, List.set]
                  refine wpAnyH_ready (rs := [14]) (by kernel_rfl) (by simp) ?_
                  refine AllReadyH.cons rfl (fun K hK => ?_) AllReadyH.nil
                  refine Kd.R_append_rows_step kS (w0 := wd) wd.heap.size (by rfl) (.tmp 55) (.tmp 58) 52 29 _ 16 rfl Try.underlying52 infoS29 rfl (by decide) (by decide) _ (T.take (T.length) ++ [x]) ([]) _ _ _ (fun _ => True) (fun _ => False) rfl rfl RA22.out (C_zero (BA22.out) _) (fun x cs h => K_M x cs h) (fun _ h => h.elim) (fun _ _ => trivial) BA22.out BA22.out.size (by rw [List.length_append, List.length_take, List.length_singleton]; have := HTL.out; first | omega | (simp; done) | (simp; omega)) ?_
                  intro vB22 wB22 hR hB hg hat
                  have RB22 := Aside0.mk hR
                  have BB22 := Aside0.mk hB
                  clear hR hB hg hat hHeld
                  refine hK.out _ _ BB22.out (fun hHeld => ?_)
                  clear hK K
                  try simp only [putL, putN, List.set]
                  refine tk (i := 15) (v := _) 3 rfl (Or.inl ⟨by rfl, fun w' hW => by go_simp; try (first | with_reducible rfl | rfl)⟩) hHeld ?_
                  try simp only [putL, putN, List.set]
                  refine wpAnyH_done (by kernel_rfl) ?_ _
                  clear hHeld
                  go_wp2_with fail
                  refine ⟨⟨m + 1, T.take T.length ++ [x] ++ [], by first | rfl | (rw [hw]; rfl), ?_⟩, by first | exact HH.out | (rw [hw]; exact HH.out)⟩
                  have e : T.take T.length ++ [x] ++ [] = insK (0, 0) T x T.length := by unfold insK; rw [if_pos (.inl rfl), List.append_nil, List.drop_length]
                  have hb : Below w.heap.size w wd := hS.out.b.trans (HBD.out.mono hS.out.b.size)
                  refine ⟨⟨hb.trans (BB22.out.mono hb.size), by have := H1.out; omega, Kd.R_lower RB22.out hb.size, ?_, ?_, ?_⟩⟩
                  · rw [e]; exact insK_strict ltS (0, 0) ltS_tr ltS_tot _ x _ (Nat.le_refl _) hS.out.st hS2.out.2.2 (fun hi => absurd hi (Nat.lt_irrefl _))
                  · exact HST.out _ (fun z => by rw [e]; exact insK_mem (0, 0) _ x _ (Nat.le_refl _) z)
                  · rw [e]; have := insK_len T x T.length (Nat.le_refl _); have := hS.out.len; omega
    · have d1 : decide ((m : Int) < (L.length : Int)) = false := decide_eq_false (by omega)
      have d2 : decide (m < L.length) = false := decide_eq_false h1
      have hm : m = L.length := by have := hS.out.le; omega
      have HF : Aside0 ((∀ x, x ∈ T ↔ x ∈ L) ∧ T.length ≤ L.length) := ⟨⟨fun x => by rw [hS.out.mem, hm, List.take_length], by have := hS.out.len; omega⟩⟩
      clear h1 hm
      go_wp2_with fail
      go_ret
      exact ⟨_, T, rfl, hS.out.r, hS.out.st, HF.out.1, HF.out.2, hS.out.b⟩
end Go.Proofs.Ytgklphcnkplkoaa.QSt
