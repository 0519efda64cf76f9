/- Decode: conf.Lane, conf.Receiver walked. -/
import Derived.Test.YtoliipbmcekciaaDoorQDdx0
import Derived.Test.YtoliipbmcekciaaDoorBDc
namespace Go.Proofs.YtoliipbmcekciaaDoor.QDd
open Go.RowKit Go.Proofs.YtoliipbmcekciaaDoorW.PrintWords Go.Proofs.YtoliipbmcekciaaDoorW.PrintLast Go.Proofs.YtoliipbmcekciaaDoorW.PrintMore
open Go.Proofs.YtoliipbmcekciaaDoor.QDc (take_at yields_blk load_blk store_blk blk_setCells setAll far_setCells below_setCells)
set_option linter.unusedVariables false
set_option linter.unusedSimpArgs false
set_option maxRecDepth 100000 in
theorem within_calls (n a b : Int) (w : World) : Calls Tryd.prog 100 #[.int .i64 n, .int .i64 a, .int .i64 b] w fun e w' => e = .returned (.bool (decide (a ≤ n ∧ n ≤ b))) ∧ w = w' := by
  by_cases h1 : a ≤ n
  · by_cases h2 : n ≤ b
    · have e1 : decide (a ≤ n) = true := decide_eq_true h1
      have e2 : decide (n ≤ b) = true := decide_eq_true h2
      have e3 : decide (a ≤ n ∧ n ≤ b) = true := decide_eq_true ⟨h1, h2⟩
      rw [e3]
      go_enter Tryd.func100, Tryd.ntmps100
      go_wp2
      go_ret
      exact ⟨rfl, rfl⟩
    · have e1 : decide (a ≤ n) = true := decide_eq_true h1
      have e2 : decide (n ≤ b) = false := decide_eq_false h2
      have e3 : decide (a ≤ n ∧ n ≤ b) = false := decide_eq_false (fun h => h2 h.2)
      rw [e3]
      go_enter Tryd.func100, Tryd.ntmps100
      go_wp2
      go_ret
      exact ⟨rfl, rfl⟩
  · have e1 : decide (a ≤ n) = false := decide_eq_false h1
    have e3 : decide (a ≤ n ∧ n ≤ b) = false := decide_eq_false (fun h => h1 h.1)
    rw [e3]
    go_enter Tryd.func100, Tryd.ntmps100
    go_wp2
    go_ret
    exact ⟨rfl, rfl⟩
theorem found_calls (i : Int) (w : World) : Calls Tryd.prog 91 #[.int .i64 i] w fun e w' => e = .returned (.tuple #[.int .i64 (max i 0), .bool (decide (0 ≤ i))]) ∧ w = w' := by
  by_cases h : 0 ≤ i
  · rw [Int.max_eq_left h, decide_eq_true h]
    go_enter Tryd.func91, Tryd.ntmps91
    go_wp2
    all_goals (first | (exfalso; omega) | (go_ret2; exact ⟨rfl, rfl⟩))
  · rw [Int.max_eq_right (by omega), decide_eq_false h]
    have hd : decide (0 ≤ i) = false := decide_eq_false h
    go_enter Tryd.func91, Tryd.ntmps91
    go_wp2
    all_goals (first | (exfalso; omega) | (go_ret2; exact ⟨rfl, rfl⟩))
def chF (l : List S87) (n : Int) : S87 := if 0 ≤ n ∧ n < (l.length : Int) then rd_T87 l n else z87
set_option maxRecDepth 100000 in
set_option maxHeartbeats 1000000 in
theorem channel_calls (v0 v1 v3 v4 v5 v6 v7 : Value) (A : Option Addr) (c : Nat) (l : List S87) (n : Int) (w : World) (hc : l.length ≤ c) (hn : l.length ≤ 1000) (hr : Kd.C k87 w A l.length l) :
    Calls Tryd.prog 93 #[.agg #[v0, v1, .slice A l.length c, v3, v4, v5, v6, v7], .int .i64 n] w fun e w' => ∃ x A1 c1 A2 c2, e = .returned (.agg #[.int .i64 x, .slice A1 (chF l n).f1.length c1, .slice A2 (chF l n).f2.length c2]) ∧ (chF l n).f1.length ≤ c1 ∧ k103.C w A1 (chF l n).f1.length (chF l n).f1 ∧ (chF l n).f2.length ≤ c2 ∧ k105.C w A2 (chF l n).f2.length (chF l n).f2 ∧ Below w.heap.size w w' := by
  have HC := Aside0.mk (And.intro hc hr)
  clear hc hr
  by_cases h : 0 ≤ n ∧ n ≤ (l.length : Int) - 1
  · have e1 : chF l n = rd_T87 l n := if_pos ⟨h.1, by omega⟩
    rw [e1]
    have h0 : 0 ≤ n := h.1
    have h1 : n < (l.length : Int) := by omega
    obtain ⟨ad, A1, c1, A2, c2, rfl, x0, x1, x2, l1, g1, l2, g2⟩ := at_T87 HC.out.2 n h0 h1
    have HX := Aside0.mk (And.intro x0 (And.intro x1 (And.intro x2 (And.intro l1 (And.intro g1 (And.intro l2 g2))))))
    clear x0 x1 x2 l1 g1 l2 g2 e1
    go_enter Tryd.func93, Tryd.ntmps93
    go_upto_region 1 with fail
    have BK : Aside0 (Below w.heap.size w ((w.alloc (Obj.cells #[v0, v1, Value.slice (some ad) l.length c, v3, v4, v5, v6, v7] 28)).alloc
            (Obj.cells #[Value.int IntKind.i64 0, Value.slice none 0 0, Value.slice none 0 0] 87))) := ⟨((Below.refl _ w).alloc (Nat.le_refl _) _).alloc (by simp) _⟩
    have E0 : Aside0 (((w.alloc (Obj.cells #[v0, v1, Value.slice (some ad) l.length c, v3, v4, v5, v6, v7] 28)).alloc
            (Obj.cells #[Value.int IntKind.i64 0, Value.slice none 0 0, Value.slice none 0 0] 87)).heap[w.heap.size]? = some (.cells #[v0, v1, Value.slice (some ad) l.length c, v3, v4, v5, v6, v7] 28 (0, 0))) := ⟨(Below.heap_alloc _ _ _ (by simp)).trans (World.alloc_heap_new w _)⟩
    have E1 : Aside0 (((w.alloc (Obj.cells #[v0, v1, Value.slice (some ad) l.length c, v3, v4, v5, v6, v7] 28)).alloc
            (Obj.cells #[Value.int IntKind.i64 0, Value.slice none 0 0, Value.slice none 0 0] 87)).heap[w.heap.size + 1]? = some (.cells #[Value.int IntKind.i64 0, Value.slice none 0 0, Value.slice none 0 0] 87 (0, 0))) := ⟨by have := World.alloc_heap_new (w.alloc (Obj.cells #[v0, v1, Value.slice (some ad) l.length c, v3, v4, v5, v6, v7] 28)) (Obj.cells #[Value.int IntKind.i64 0, Value.slice none 0 0, Value.slice none 0 0] 87); rwa [World.size_alloc] at this⟩
    generalize ((w.alloc (Obj.cells #[v0, v1, Value.slice (some ad) l.length c, v3, v4, v5, v6, v7] 28)).alloc
            (Obj.cells #[Value.int IntKind.i64 0, Value.slice none 0 0, Value.slice none 0 0] 87)) = w2 at BK E0 E1 ⊢
    have y0 := pw_cell_below BK.out HX.out.1
    have y1 := pw_cell_below BK.out HX.out.2.1
    have y2 := pw_cell_below BK.out HX.out.2.2.1
    have b2 : w2.cell? ⟨w.heap.size, 2, none⟩ = some (Value.slice (some ad) l.length c) := by simp [World.cell?, E0.out]
    have z0 : w2.cell? ⟨w.heap.size + 1, 0, none⟩ = some (.int .i64 0) := by simp [World.cell?, E1.out]
    have z1 : w2.cell? ⟨w.heap.size + 1, 1, none⟩ = some (.slice none 0 0) := by simp [World.cell?, E1.out]
    have z2 : w2.cell? ⟨w.heap.size + 1, 2, none⟩ = some (.slice none 0 0) := by simp [World.cell?, E1.out]
    have f0 : w2.frozen? ⟨w.heap.size + 1, 0, none⟩ = false := by simp [World.frozen?, E1.out]
    have f1 : w2.frozen? ⟨w.heap.size + 1, 1, none⟩ = false := by simp [World.frozen?, E1.out]
    have f2 : w2.frozen? ⟨w.heap.size + 1, 2, none⟩ = false := by simp [World.frozen?, E1.out]
    go_wp2_with (first | (go_at_call 100; refine (within_calls _ _ _ _).mono ?_; rintro e w' ⟨rfl, rfl⟩))
    change bodyPost _ _ _ _ _ (w2.setCells (w.heap.size + 1) 0 [.int .i64 (rd_T87 l n).f0, .slice A1 (rd_T87 l n).f1.length c1, .slice A2 (rd_T87 l n).f2.length c2])
    have E2 : Aside0 ((w2.setCells (w.heap.size + 1) 0 [.int .i64 (rd_T87 l n).f0, .slice A1 (rd_T87 l n).f1.length c1, .slice A2 (rd_T87 l n).f2.length c2]).heap[w.heap.size + 1]? = some (.cells #[.int .i64 (rd_T87 l n).f0, .slice A1 (rd_T87 l n).f1.length c1, .slice A2 (rd_T87 l n).f2.length c2] 87 (0, 0))) := ⟨blk_setCells _ 0 _ w2 E1.out⟩
    have B2 : Aside0 (Below w.heap.size w (w2.setCells (w.heap.size + 1) 0 [.int .i64 (rd_T87 l n).f0, .slice A1 (rd_T87 l n).f1.length c1, .slice A2 (rd_T87 l n).f2.length c2])) := ⟨below_setCells (by omega) _ 0 _ BK.out⟩
    generalize w2.setCells (w.heap.size + 1) 0 [.int .i64 (rd_T87 l n).f0, .slice A1 (rd_T87 l n).f1.length c1, .slice A2 (rd_T87 l n).f2.length c2] = w3 at E2 B2 ⊢
    have q0 : w3.cell? ⟨w.heap.size + 1, 0, none⟩ = some (.int .i64 (rd_T87 l n).f0) := by simp [World.cell?, E2.out]
    have q1 : w3.cell? ⟨w.heap.size + 1, 1, none⟩ = some (.slice A1 (rd_T87 l n).f1.length c1) := by simp [World.cell?, E2.out]
    have q2 : w3.cell? ⟨w.heap.size + 1, 2, none⟩ = some (.slice A2 (rd_T87 l n).f2.length c2) := by simp [World.cell?, E2.out]
    exact bodyPost_ret (v := .agg #[.int .i64 (rd_T87 l n).f0, .slice A1 (rd_T87 l n).f1.length c1, .slice A2 (rd_T87 l n).f2.length c2]) (by simp [results, Tryd.results93, go_sem, q0, q1, q2]) rfl ⟨_, _, _, _, _, rfl, HX.out.2.2.2.1, HX.out.2.2.2.2.1, HX.out.2.2.2.2.2.1, HX.out.2.2.2.2.2.2, B2.out⟩
  · have e1 : chF l n = z87 := if_neg (fun hh => h ⟨hh.1, by omega⟩)
    rw [e1]
    have d1 : decide (0 ≤ n ∧ n ≤ (l.length : Int) - 1) = false := decide_eq_false h
    have hw : IntKind.i64.wrap ((l.length : Int) - 1) = (l.length : Int) - 1 := IntWalk.i64_in _ (by omega)
    clear h
    go_enter Tryd.func93, Tryd.ntmps93
    go_wp2_with (first | (go_at_call 100; refine (within_calls _ _ _ _).mono ?_; rintro e w' ⟨rfl, rfl⟩))
    exact bodyPost_ret (v := .agg #[.int .i64 0, .slice none 0 0, .slice none 0 0]) (by simp [results, Tryd.results93, go_sem]) rfl ⟨_, none, 0, none, 0, rfl, Nat.le_refl _, ⟨rfl, by decide, fun hh => absurd hh (by decide)⟩, Nat.le_refl _, ⟨rfl, by decide, fun hh => absurd hh (by decide)⟩, ((Below.refl _ w).alloc (Nat.le_refl _) _).alloc (by simp) _⟩
/-- Where one is first; below 0: it is not there. -/
def seek : List Int → Int → Int
  | [], _ => -1
  | x :: l, t => if x = t then 0 else if seek l t < 0 then -1 else seek l t + 1
theorem seek_le (l : List Int) (t : Int) : -1 ≤ seek l t ∧ seek l t < (l.length : Int) := by
  induction l with
  | nil => simp [seek]
  | cons x l ih => unfold seek; rw [List.length_cons]; (split <;> (try split)) <;> omega
theorem seek_here {l : List Int} {t : Int} : ∀ (m : Nat), (∀ j, j < m → l.getD j 0 ≠ t) → m < l.length → l.getD m 0 = t → seek l t = m := by
  induction l with
  | nil => intro m _ h _; simp at h
  | cons x l ih =>
    intro m h0 h1 h2
    unfold seek
    cases m with
    | zero => rw [if_pos (by simpa using h2)]; rfl
    | succ m =>
      rw [if_neg (by have := h0 0 (by omega); simpa using this)]
      have := ih m (fun j hj => by have := h0 (j + 1) (by omega); simpa using this) (by simpa using h1) (by simpa using h2)
      rw [this, if_neg (by omega)]
      omega
theorem seek_none {l : List Int} {t : Int} (h : ∀ j, j < l.length → l.getD j 0 ≠ t) : seek l t = -1 := by
  induction l with
  | nil => rfl
  | cons x l ih =>
    unfold seek
    rw [if_neg (by have := h 0 (by simp); simpa using this), ih (fun j hj => by have := h (j + 1) (by simpa using hj); simpa using this)]
    rfl
theorem map_getD103 (l : List S103) (m : Nat) (h : m < l.length) : (l.map (·.f0)).getD m 0 = (rd_T103 l (m : Int)).f0 := by
  unfold rd_T103
  rw [Int.toNat_natCast, List.getD_eq_getElem?_getD, List.getD_eq_getElem?_getD, List.getElem?_map, List.getElem?_eq_getElem h]; rfl
theorem map_getD105 (l : List S105) (m : Nat) (h : m < l.length) : (l.map (·.f0)).getD m 0 = (rd_T105 l (m : Int)).f0 := by
  unfold rd_T105
  rw [Int.toNat_natCast, List.getD_eq_getElem?_getD, List.getD_eq_getElem?_getD, List.getElem?_map, List.getElem?_eq_getElem h]; rfl

/-! ### Lanes -/
set_option maxRecDepth 100000 in
theorem closure94_calls (x : S103) (t : Int) (b : Nat) (w : World) (hb : b < w.heap.size) (hc : w.cell? ⟨b, 0, none⟩ = some (.int .i64 t)) :
    Calls Tryd.prog 94 #[.agg #[.int .i64 x.f0, .int .i64 x.f1, .bool x.f2], .pointer (some ⟨b, 0, none⟩)] w fun e w' => e = .returned (.bool (decide (x.f0 = t))) ∧ Below w.heap.size w w' := by
  have hb' : b ≠ w.heap.size := by omega
  have hc' := World.new_ne w ⟨b, 0, none⟩ hc
  go_enter Tryd.func94, Tryd.ntmps94
  go_wp2
  go_ret
  exact ⟨rfl, (Below.refl _ w).alloc (Nat.le_refl _) _⟩
def Ix103 (w : World) (l : List S103) (t : Int) (m : Nat) (wr : World) : Prop := Below w.heap.size w wr ∧ m ≤ l.length ∧ ∀ j, j < m → (l.map (·.f0)).getD j 0 ≠ t
set_option maxRecDepth 100000 in
set_option maxHeartbeats 1000000 in
theorem index92_calls (A : Option Addr) (c : Nat) (l : List S103) (t : Int) (b : Nat) (w : World) (hn : l.length ≤ 1000000) (hr : k103.C w A l.length l) (hb : b < w.heap.size) (hc : w.cell? ⟨b, 0, none⟩ = some (.int .i64 t)) :
    Calls Tryd.prog 92 #[.slice A l.length c, .func (.func 94) #[] #[.pointer (some ⟨b, 0, none⟩)]] w fun e w' => e = .returned (.int .i64 (seek (l.map (·.f0)) t)) ∧ Below w.heap.size w w' := by
  have HR := Aside0.mk hr
  have HC := Aside0.mk hc
  have HB := Aside0.mk hb
  clear hr hc hb
  have H0 : Aside0 (Ix103 w l t 0 w) := ⟨⟨Below.refl _ _, Nat.zero_le _, fun j hj => absurd hj (by omega)⟩⟩
  go_enter Tryd.func92, Tryd.ntmps92
  go_wp2
  go_loopw [5, 8] (fun _ i wr => ∃ m : Nat, i = .int .i64 (m : Int) ∧ Aside0 (Ix103 w l t m wr)) (fun _ i _ => l.length - (intOf i).toNat)
  case atStart => exact ⟨0, rfl, H0⟩
  case round =>
    clear H0
    obtain ⟨m, rfl, hS⟩ := hrel
    by_cases h1 : (m : Int) < (l.length : Int)
    · have d1 : decide ((m : Int) < (l.length : Int)) = true := decide_eq_true h1
      have H1 := Aside0.mk h1
      have h0 : (0 : Int) ≤ (m : Int) := by omega
      obtain ⟨ad, eA, x0, x1, x2⟩ := at_T103 HR.out (m : Int) h0 h1
      subst eA
      replace x0 := pw_cell_below hS.out.1 x0
      replace x1 := pw_cell_below hS.out.1 x1
      replace x2 := pw_cell_below hS.out.1 x2
      rw [Int.toNat_natCast] at x0 x1 x2
      have hce := pw_cell_below hS.out.1 HC.out
      have hm2 : b < wr.heap.size := Nat.lt_of_lt_of_le HB.out hS.out.1.size
      have HM := Aside0.mk (And.intro hce hm2)
      clear hce hm2
      by_cases h2 : (rd_T103 l (m : Int)).f0 = t
      · have d2 : decide ((rd_T103 l (m : Int)).f0 = t) = true := decide_eq_true h2
        have H2 := Aside0.mk h2
        clear h2
        go_wp2_with (first | (go_at_call 94; refine (closure94_calls (rd_T103 l (m : Int)) t b _ HM.out.2 HM.out.1).mono ?_; rintro e w1 ⟨rfl, hB1⟩; rw [d2]; have HB1 := Aside0.mk hB1; clear hB1))
        go_ret
        refine ⟨?_, hS.out.1.trans (HB1.out.mono hS.out.1.size)⟩
        rw [seek_here m hS.out.2.2 (by rw [List.length_map]; have := H1.out; omega) (by rw [map_getD103 l m (by have := H1.out; omega)]; exact H2.out)]
        rfl
      · have d2 : decide ((rd_T103 l (m : Int)).f0 = t) = false := decide_eq_false h2
        have H2 := Aside0.mk h2
        clear h2
        go_wp2_with (first | (go_at_call 94; refine (closure94_calls (rd_T103 l (m : Int)) t b _ HM.out.2 HM.out.1).mono ?_; rintro e w1 ⟨rfl, hB1⟩; rw [d2]; have HB1 := Aside0.mk hB1; clear hB1))
        go_roundw
        case rel =>
          refine ⟨m + 1, by go_num, ⟨hS.out.1.trans (HB1.out.mono hS.out.1.size), by have := H1.out; omega, fun j hj => ?_⟩⟩
          by_cases hjm : j = m
          · subst hjm
            rw [map_getD103 l j (by have := H1.out; omega)]
            exact H2.out
          · exact hS.out.2.2 j (by omega)
        case measure => simp [intOf]; have := H1.out; omega
    · have d1 : decide ((m : Int) < (l.length : Int)) = false := decide_eq_false h1
      have H1 := Aside0.mk h1
      go_wp2
      go_ret
      refine ⟨?_, hS.out.1⟩
      rw [seek_none (fun j hj => hS.out.2.2 j (by rw [List.length_map] at hj; have := H1.out; have := hS.out.2.1; omega))]
      rfl

/-! ### Receivers -/
set_option maxRecDepth 100000 in
theorem closure96_calls (x : S105) (t : Int) (b : Nat) (w : World) (hb : b < w.heap.size) (hc : w.cell? ⟨b, 0, none⟩ = some (.int .i64 t)) :
    Calls Tryd.prog 96 #[.agg #[.int .i64 x.f0, .bool x.f1], .pointer (some ⟨b, 0, none⟩)] w fun e w' => e = .returned (.bool (decide (x.f0 = t))) ∧ Below w.heap.size w w' := by
  have hb' : b ≠ w.heap.size := by omega
  have hc' := World.new_ne w ⟨b, 0, none⟩ hc
  go_enter Tryd.func96, Tryd.ntmps96
  go_wp2
  go_ret
  exact ⟨rfl, (Below.refl _ w).alloc (Nat.le_refl _) _⟩
def Ix105 (w : World) (l : List S105) (t : Int) (m : Nat) (wr : World) : Prop := Below w.heap.size w wr ∧ m ≤ l.length ∧ ∀ j, j < m → (l.map (·.f0)).getD j 0 ≠ t
set_option maxRecDepth 100000 in
set_option maxHeartbeats 1000000 in
theorem index95_calls (A : Option Addr) (c : Nat) (l : List S105) (t : Int) (b : Nat) (w : World) (hn : l.length ≤ 1000000) (hr : k105.C w A l.length l) (hb : b < w.heap.size) (hc : w.cell? ⟨b, 0, none⟩ = some (.int .i64 t)) :
    Calls Tryd.prog 95 #[.slice A l.length c, .func (.func 96) #[] #[.pointer (some ⟨b, 0, none⟩)]] w fun e w' => e = .returned (.int .i64 (seek (l.map (·.f0)) t)) ∧ Below w.heap.size w w' := by
  have HR := Aside0.mk hr
  have HC := Aside0.mk hc
  have HB := Aside0.mk hb
  clear hr hc hb
  have H0 : Aside0 (Ix105 w l t 0 w) := ⟨⟨Below.refl _ _, Nat.zero_le _, fun j hj => absurd hj (by omega)⟩⟩
  go_enter Tryd.func95, Tryd.ntmps95
  go_wp2
  go_loopw [5, 8] (fun _ i wr => ∃ m : Nat, i = .int .i64 (m : Int) ∧ Aside0 (Ix105 w l t m wr)) (fun _ i _ => l.length - (intOf i).toNat)
  case atStart => exact ⟨0, rfl, H0⟩
  case round =>
    clear H0
    obtain ⟨m, rfl, hS⟩ := hrel
    by_cases h1 : (m : Int) < (l.length : Int)
    · have d1 : decide ((m : Int) < (l.length : Int)) = true := decide_eq_true h1
      have H1 := Aside0.mk h1
      have h0 : (0 : Int) ≤ (m : Int) := by omega
      obtain ⟨ad, eA, x0, x1⟩ := at_T105 HR.out (m : Int) h0 h1
      subst eA
      replace x0 := pw_cell_below hS.out.1 x0
      replace x1 := pw_cell_below hS.out.1 x1
      rw [Int.toNat_natCast] at x0 x1
      have hce := pw_cell_below hS.out.1 HC.out
      have hm2 : b < wr.heap.size := Nat.lt_of_lt_of_le HB.out hS.out.1.size
      have HM := Aside0.mk (And.intro hce hm2)
      clear hce hm2
      by_cases h2 : (rd_T105 l (m : Int)).f0 = t
      · have d2 : decide ((rd_T105 l (m : Int)).f0 = t) = true := decide_eq_true h2
        have H2 := Aside0.mk h2
        clear h2
        go_wp2_with (first | (go_at_call 96; refine (closure96_calls (rd_T105 l (m : Int)) t b _ HM.out.2 HM.out.1).mono ?_; rintro e w1 ⟨rfl, hB1⟩; rw [d2]; have HB1 := Aside0.mk hB1; clear hB1))
        go_ret
        refine ⟨?_, hS.out.1.trans (HB1.out.mono hS.out.1.size)⟩
        rw [seek_here m hS.out.2.2 (by rw [List.length_map]; have := H1.out; omega) (by rw [map_getD105 l m (by have := H1.out; omega)]; exact H2.out)]
        rfl
      · have d2 : decide ((rd_T105 l (m : Int)).f0 = t) = false := decide_eq_false h2
        have H2 := Aside0.mk h2
        clear h2
        go_wp2_with (first | (go_at_call 96; refine (closure96_calls (rd_T105 l (m : Int)) t b _ HM.out.2 HM.out.1).mono ?_; rintro e w1 ⟨rfl, hB1⟩; rw [d2]; have HB1 := Aside0.mk hB1; clear hB1))
        go_roundw
        case rel =>
          refine ⟨m + 1, by go_num, ⟨hS.out.1.trans (HB1.out.mono hS.out.1.size), by have := H1.out; omega, fun j hj => ?_⟩⟩
          by_cases hjm : j = m
          · subst hjm
            rw [map_getD105 l j (by have := H1.out; omega)]
            exact H2.out
          · exact hS.out.2.2 j (by omega)
        case measure => simp [intOf]; have := H1.out; omega
    · have d1 : decide ((m : Int) < (l.length : Int)) = false := decide_eq_false h1
      have H1 := Aside0.mk h1
      go_wp2
      go_ret
      refine ⟨?_, hS.out.1⟩
      rw [seek_none (fun j hj => hS.out.2.2 j (by rw [List.length_map] at hj; have := H1.out; have := hS.out.2.1; omega))]
      rfl
end Go.Proofs.YtoliipbmcekciaaDoor.QDd
namespace Go.Proofs.YtoliipbmcekciaaDoor.QDd
open Go.RowKit Go.Proofs.YtoliipbmcekciaaDoorW.PrintWords Go.Proofs.YtoliipbmcekciaaDoorW.PrintLast Go.Proofs.YtoliipbmcekciaaDoorW.PrintMore
open Go.Proofs.YtoliipbmcekciaaDoor.QDc (obj_below take_at yields_blk load_blk store_blk blk_setCells setAll far_setCells below_setCells)
set_option linter.unusedVariables false
set_option linter.unusedSimpArgs false
def Small (l : List S87) : Prop := l.length ≤ 1000 ∧ ∀ x ∈ l, x.f1.length ≤ 1000 ∧ x.f2.length ≤ 1000
theorem chF_small {l : List S87} (h : Small l) (n : Int) : (chF l n).f1.length ≤ 1000 ∧ (chF l n).f2.length ≤ 1000 := by
  unfold chF
  split
  · rename_i hn
    unfold rd_T87
    have hlt : n.toNat < l.length := by omega
    rw [List.getD_eq_getElem?_getD, List.getElem?_eq_getElem hlt]
    exact h.2 _ (List.getElem_mem hlt)
  · exact ⟨by decide, by decide⟩
theorem field87_1 (a b c : Value) (W : World) : (Instr.field 87 (.agg #[a, b, c]) 1).run Tryd.prog W = .ok b W := by kernel_rfl
theorem field87_2 (a b c : Value) (W : World) : (Instr.field 87 (.agg #[a, b, c]) 2).run Tryd.prog W = .ok c W := by kernel_rfl
def laneS (l : List S87) (n t : Int) : Int := seek ((chF l n).f1.map (·.f0)) t
def recvS (l : List S87) (n t : Int) : Int := seek ((chF l n).f2.map (·.f0)) t
set_option maxRecDepth 100000 in
set_option maxHeartbeats 1000000 in
theorem confLane_calls (v0 v1 v3 v4 v5 v6 v7 : Value) (A : Option Addr) (c : Nat) (l : List S87) (n t : Int) (w : World) (hc : l.length ≤ c) (hs : Small l) (hr : Kd.C k87 w A l.length l) :
    Calls Tryd.prog 73 #[.agg #[v0, v1, .slice A l.length c, v3, v4, v5, v6, v7], .int .i64 n, .int .i64 t] w fun e w' => e = .returned (.tuple #[.int .i64 (max (laneS l n t) 0), .bool (decide (0 ≤ laneS l n t))]) ∧ Below w.heap.size w w' := by
  have HC := Aside0.mk (And.intro hc (And.intro hr hs))
  clear hc hr hs
  go_enter Tryd.func73, Tryd.ntmps73
  go_upto_region 1 with fail
  have BK : Aside0 (Below w.heap.size w ((w.alloc (Obj.cells #[v0, v1, Value.slice A l.length c, v3, v4, v5, v6, v7] 28)).alloc (Obj.cells #[.int .i64 t] 3))) := ⟨((Below.refl _ w).alloc (Nat.le_refl _) _).alloc (by simp) _⟩
  have E0 : Aside0 (((w.alloc (Obj.cells #[v0, v1, Value.slice A l.length c, v3, v4, v5, v6, v7] 28)).alloc (Obj.cells #[.int .i64 t] 3)).heap[w.heap.size]? = some (.cells #[v0, v1, Value.slice A l.length c, v3, v4, v5, v6, v7] 28 (0, 0))) := ⟨(Below.heap_alloc _ _ _ (by simp)).trans (World.alloc_heap_new w _)⟩
  have E1 : Aside0 (((w.alloc (Obj.cells #[v0, v1, Value.slice A l.length c, v3, v4, v5, v6, v7] 28)).alloc (Obj.cells #[.int .i64 t] 3)).heap[w.heap.size + 1]? = some (.cells #[.int .i64 t] 3 (0, 0))) := ⟨by have := World.alloc_heap_new (w.alloc (Obj.cells #[v0, v1, Value.slice A l.length c, v3, v4, v5, v6, v7] 28)) (Obj.cells #[.int .i64 t] 3); rwa [World.size_alloc] at this⟩
  generalize ((w.alloc (Obj.cells #[v0, v1, Value.slice A l.length c, v3, v4, v5, v6, v7] 28)).alloc (Obj.cells #[.int .i64 t] 3)) = w2 at BK E0 E1 ⊢
  go_wp2_with (first | ((with_reducible refine gate_ (.load 28 (.tmp 3)) rfl ?_); refine load_blk rfl 28 (.tmp 3) rfl w.heap.size _ 28 rfl _ E0.out Tryd.underlying28 rfl (by kernel_rfl) ?_) | (go_at_call 93; refine (channel_calls v0 v1 v3 v4 v5 v6 v7 A c l n _ HC.out.1 HC.out.2.2.1 (Kd.C_below HC.out.2.1 BK.out)).mono ?_; rintro e w3 ⟨x, A1, c1, A2, c2, rfl, hc1, hC1, hc2, hC2, hB3⟩; have H3 := Aside0.mk (And.intro hC1 hB3); have hfd := field87_1 (.int .i64 x) (.slice A1 (chF l n).f1.length c1) (.slice A2 (chF l n).f2.length c2) w3; clear hc1 hC1 hc2 hC2 hB3) | (go_at_call 92; refine (index92_calls A1 c1 (chF l n).f1 t (w.heap.size + 1) _ (by have := (chF_small HC.out.2.2 n).1; omega) (Kd.C_below H3.out.1 H3.out.2) (by have := H3.out.2.size; have := BK.out.size; have := (Array.getElem?_eq_some_iff.1 E1.out).1; omega) (pw_cell_below H3.out.2 (by simp [World.cell?, E1.out]))).mono ?_; rintro e w4 ⟨rfl, hB4⟩; have H4 := Aside0.mk hB4; clear hB4) | (go_at_call 91; refine (found_calls _ _).mono ?_; rintro e w5 ⟨rfl, rfl⟩))
  go_ret2
  exact ⟨rfl, BK.out.trans ((H3.out.2.trans (H4.out.mono H3.out.2.size)).mono BK.out.size)⟩
set_option maxRecDepth 100000 in
set_option maxHeartbeats 1000000 in
theorem confReceiver_calls (v0 v1 v3 v4 v5 v6 v7 : Value) (A : Option Addr) (c : Nat) (l : List S87) (n t : Int) (w : World) (hc : l.length ≤ c) (hs : Small l) (hr : Kd.C k87 w A l.length l) :
    Calls Tryd.prog 74 #[.agg #[v0, v1, .slice A l.length c, v3, v4, v5, v6, v7], .int .i64 n, .int .i64 t] w fun e w' => e = .returned (.tuple #[.int .i64 (max (recvS l n t) 0), .bool (decide (0 ≤ recvS l n t))]) ∧ Below w.heap.size w w' := by
  have HC := Aside0.mk (And.intro hc (And.intro hr hs))
  clear hc hr hs
  go_enter Tryd.func74, Tryd.ntmps74
  go_upto_region 1 with fail
  have BK : Aside0 (Below w.heap.size w ((w.alloc (Obj.cells #[v0, v1, Value.slice A l.length c, v3, v4, v5, v6, v7] 28)).alloc (Obj.cells #[.int .i64 t] 3))) := ⟨((Below.refl _ w).alloc (Nat.le_refl _) _).alloc (by simp) _⟩
  have E0 : Aside0 (((w.alloc (Obj.cells #[v0, v1, Value.slice A l.length c, v3, v4, v5, v6, v7] 28)).alloc (Obj.cells #[.int .i64 t] 3)).heap[w.heap.size]? = some (.cells #[v0, v1, Value.slice A l.length c, v3, v4, v5, v6, v7] 28 (0, 0))) := ⟨(Below.heap_alloc _ _ _ (by simp)).trans (World.alloc_heap_new w _)⟩
  have E1 : Aside0 (((w.alloc (Obj.cells #[v0, v1, Value.slice A l.length c, v3, v4, v5, v6, v7] 28)).alloc (Obj.cells #[.int .i64 t] 3)).heap[w.heap.size + 1]? = some (.cells #[.int .i64 t] 3 (0, 0))) := ⟨by have := World.alloc_heap_new (w.alloc (Obj.cells #[v0, v1, Value.slice A l.length c, v3, v4, v5, v6, v7] 28)) (Obj.cells #[.int .i64 t] 3); rwa [World.size_alloc] at this⟩
  generalize ((w.alloc (Obj.cells #[v0, v1, Value.slice A l.length c, v3, v4, v5, v6, v7] 28)).alloc (Obj.cells #[.int .i64 t] 3)) = w2 at BK E0 E1 ⊢
  go_wp2_with (first | ((with_reducible refine gate_ (.load 28 (.tmp 3)) rfl ?_); refine load_blk rfl 28 (.tmp 3) rfl w.heap.size _ 28 rfl _ E0.out Tryd.underlying28 rfl (by kernel_rfl) ?_) | (go_at_call 93; refine (channel_calls v0 v1 v3 v4 v5 v6 v7 A c l n _ HC.out.1 HC.out.2.2.1 (Kd.C_below HC.out.2.1 BK.out)).mono ?_; rintro e w3 ⟨x, A1, c1, A2, c2, rfl, hc1, hC1, hc2, hC2, hB3⟩; have H3 := Aside0.mk (And.intro hC2 hB3); have hfd := field87_2 (.int .i64 x) (.slice A1 (chF l n).f1.length c1) (.slice A2 (chF l n).f2.length c2) w3; clear hc1 hC1 hc2 hC2 hB3) | (go_at_call 95; refine (index95_calls A2 c2 (chF l n).f2 t (w.heap.size + 1) _ (by have := (chF_small HC.out.2.2 n).2; omega) (Kd.C_below H3.out.1 H3.out.2) (by have := H3.out.2.size; have := BK.out.size; have := (Array.getElem?_eq_some_iff.1 E1.out).1; omega) (pw_cell_below H3.out.2 (by simp [World.cell?, E1.out]))).mono ?_; rintro e w4 ⟨rfl, hB4⟩; have H4 := Aside0.mk hB4; clear hB4) | (go_at_call 91; refine (found_calls _ _).mono ?_; rintro e w5 ⟨rfl, rfl⟩))
  go_ret2
  exact ⟨rfl, BK.out.trans ((H3.out.2.trans (H4.out.mono H3.out.2.size)).mono BK.out.size)⟩
abbrev NC (v0 v1 v3 v4 v5 v6 v7 : Value) (A : Option Addr) (c : Nat) (l : List S87) (n t r : Int) : Array Value := #[v0, v1, .slice A l.length c, v3, v4, v5, v6, v7, .int .i64 n, .int .i64 t, .int .u8 r]
def hasB (r k : Int) : Bool := bits .and .u8 r k != 0
set_option maxRecDepth 100000 in
set_option maxHeartbeats 1000000 in
theorem has_calls (v0 v1 v3 v4 v5 v6 v7 : Value) (A : Option Addr) (c : Nat) (l : List S87) (n t r k : Int) (w : World) :
    Calls Tryd.prog 72 #[.agg (NC v0 v1 v3 v4 v5 v6 v7 A c l n t r), .int .u8 k] w fun e w' => e = .returned (.bool (hasB r k)) ∧ Below w.heap.size w w' := by
  unfold hasB
  generalize hz : bits .and .u8 r k = z
  go_enter Tryd.func72, Tryd.ntmps72
  go_wp2
  go_ret
  exact ⟨rfl, (Below.refl _ w).alloc (Nat.le_refl _) _⟩
def properB (l : List S87) (n r : Int) : Bool := decide (0 ≤ n) && (decide (n < (l.length : Int)) && (bits .andNot .u8 r 7 == 0 && (hasB r 1 || hasB r 2)))
set_option maxRecDepth 100000 in
set_option maxHeartbeats 1000000 in
theorem proper_calls (v0 v1 v3 v4 v5 v6 v7 : Value) (A : Option Addr) (c : Nat) (l : List S87) (n t r : Int) (w : World) :
    Calls Tryd.prog 44 #[.agg (NC v0 v1 v3 v4 v5 v6 v7 A c l n t r)] w fun e w' => e = .returned (.bool (properB l n r)) ∧ Below w.heap.size w w' := by
  obtain ⟨z, hz⟩ : ∃ z, bits .andNot .u8 r 7 = z := ⟨_, rfl⟩
  obtain ⟨b1, hb1⟩ : ∃ b, hasB r 1 = b := ⟨_, rfl⟩
  obtain ⟨b2, hb2⟩ : ∃ b, hasB r 2 = b := ⟨_, rfl⟩
  have HB := Aside0.mk (And.intro hb1 hb2)
  unfold properB
  rw [hz, hb1, hb2]
  clear hb1 hb2
  have key : ∀ (q : Bool), (decide (0 ≤ n) && (decide (n < (l.length : Int)) && (z == 0 && (b1 || b2)))) = q → Calls Tryd.prog 44 #[.agg (NC v0 v1 v3 v4 v5 v6 v7 A c l n t r)] w fun e w' => e = .returned (.bool q) ∧ Below w.heap.size w w' := by
    intro q hq
    have HQ := Aside0.mk hq
    clear hq
    go_enter Tryd.func44, Tryd.ntmps44
    go_upto_region 1 with fail
    have BK : Aside0 (Below w.heap.size w (w.alloc (Obj.cells (NC v0 v1 v3 v4 v5 v6 v7 A c l n t r) 93))) := ⟨(Below.refl _ w).alloc (Nat.le_refl _) _⟩
    have E0 : Aside0 ((w.alloc (Obj.cells (NC v0 v1 v3 v4 v5 v6 v7 A c l n t r) 93)).heap[w.heap.size]? = some (.cells (NC v0 v1 v3 v4 v5 v6 v7 A c l n t r) 93 (0, 0))) := ⟨World.alloc_heap_new w _⟩
    generalize w.alloc (Obj.cells (NC v0 v1 v3 v4 v5 v6 v7 A c l n t r) 93) = w2 at BK E0 ⊢
    have c8 : w2.cell? ⟨w.heap.size, 8, none⟩ = some (.int .i64 n) := by simp [World.cell?, E0.out]
    have c2 : w2.cell? ⟨w.heap.size, 2, none⟩ = some (.slice A l.length c) := by simp [World.cell?, E0.out]
    have c10 : w2.cell? ⟨w.heap.size, 10, none⟩ = some (.int .u8 r) := by simp [World.cell?, E0.out]
    by_cases h0 : 0 ≤ n
    · have d0 : decide (0 ≤ n) = true := decide_eq_true h0
      by_cases h1 : n < (l.length : Int)
      · have d1 : decide (n < (l.length : Int)) = true := decide_eq_true h1
        by_cases h2 : z = 0
        · subst h2
          cases b1 with
          | true =>
            go_wp2_with (first | ((with_reducible refine gate_ (.load 93 (.tmp 1)) rfl ?_); (try (refine gate_guard (by rfl) ?_; dsimp only)); refine load_blk rfl 93 (.tmp 1) rfl w.heap.size _ 93 rfl _ (by first | exact E0.out | exact obj_below W3.out E0.out) Tryd.underlying93 rfl (by kernel_rfl) ?_) | (go_at_call 72; refine (has_calls v0 v1 v3 v4 v5 v6 v7 A c l n t r 1 _).mono ?_; rintro e w3 ⟨rfl, hB3⟩; rw [HB.out.1]; have W3 := Aside0.mk hB3; clear hB3))
            go_ret
            exact ⟨by rw [← HQ.out]; simp [*], BK.out.trans (W3.out.mono BK.out.size)⟩
          | false =>
            go_wp2_with (first | ((with_reducible refine gate_ (.load 93 (.tmp 1)) rfl ?_); (try (refine gate_guard (by rfl) ?_; dsimp only)); refine load_blk rfl 93 (.tmp 1) rfl w.heap.size _ 93 rfl _ (by first | exact E0.out | exact obj_below W3.out E0.out) Tryd.underlying93 rfl (by kernel_rfl) ?_) | (go_at_call 72; refine (has_calls v0 v1 v3 v4 v5 v6 v7 A c l n t r 1 _).mono ?_; rintro e w3 ⟨rfl, hB3⟩; rw [HB.out.1]; have W3 := Aside0.mk hB3; clear hB3) | (go_at_call 72; refine (has_calls v0 v1 v3 v4 v5 v6 v7 A c l n t r 2 _).mono ?_; rintro e w4 ⟨rfl, hB4⟩; rw [HB.out.2]; have W4 := Aside0.mk hB4; clear hB4))
            go_ret
            exact ⟨by rw [← HQ.out]; simp [*], BK.out.trans ((W3.out.trans (W4.out.mono W3.out.size)).mono BK.out.size)⟩
        · have d2 : (z == 0) = false := by simpa using h2
          go_wp2_with fail
          go_ret
          exact ⟨by rw [← HQ.out]; simp [*], BK.out⟩
      · have d1 : decide (n < (l.length : Int)) = false := decide_eq_false h1
        go_wp2_with fail
        go_ret
        exact ⟨by rw [← HQ.out]; simp [*], BK.out⟩
    · have d0 : decide (0 ≤ n) = false := decide_eq_false h0
      go_wp2_with fail
      go_ret
      exact ⟨by rw [← HQ.out]; simp [*], BK.out⟩
  exact key _ rfl
end Go.Proofs.YtoliipbmcekciaaDoor.QDd
namespace Go.Proofs.YtoliipbmcekciaaDoor.QDd
open Go.RowKit Go.Proofs.YtoliipbmcekciaaDoorW.PrintWords Go.Proofs.YtoliipbmcekciaaDoorW.PrintLast Go.Proofs.YtoliipbmcekciaaDoorW.PrintMore
open Go.Proofs.YtoliipbmcekciaaDoor.QDc (obj_below take_at yields_blk load_blk load_any store_blk blk_setCells setAll far_setCells below_setCells)
set_option linter.unusedVariables false
set_option linter.unusedSimpArgs false
theorem conf_cells {v0 v1 v3 v4 v5 v6 v7 : Value} {A : Option Addr} {c : Nat} {l : List S87} {n t r : Int} {w : World} {g : Nat} (hE : w.heap[g]? = some (.cells (NC v0 v1 v3 v4 v5 v6 v7 A c l n t r) 93 (0, 0))) :
    ∀ j v, (#[v0, v1, .slice A l.length c, v3, v4, v5, v6, v7] : Array Value).toList[j]? = some v → w.cell? ((⟨g, 0, none⟩ : Addr).add j) = some v := by
  intro j v hj
  have e : (⟨g, 0, none⟩ : Addr).add j = ⟨g, j, none⟩ := by unfold Addr.add; split <;> simp_all
  rw [e]
  match j, hj with
  | 0, hj => simpa [World.cell?, hE] using hj
  | 1, hj => simpa [World.cell?, hE] using hj
  | 2, hj => simpa [World.cell?, hE] using hj
  | 3, hj => simpa [World.cell?, hE] using hj
  | 4, hj => simpa [World.cell?, hE] using hj
  | 5, hj => simpa [World.cell?, hE] using hj
  | 6, hj => simpa [World.cell?, hE] using hj
  | 7, hj => simpa [World.cell?, hE] using hj
  | j + 8, hj => simp at hj
theorem seek_lt {l : List Int} {t : Int} (h : 0 ≤ seek l t) : (seek l t).toNat < l.length := by have := (seek_le l t).2; omega
theorem chF_in {l : List S87} {n : Int} (h : chF l n ≠ z87) : 0 ≤ n ∧ n < (l.length : Int) ∧ chF l n = rd_T87 l n := by
  unfold chF at h ⊢
  split at h
  · rename_i hn
    exact ⟨hn.1, hn.2, by rw [if_pos hn]⟩
  · exact absurd rfl h
theorem laneS_in {l : List S87} {n t : Int} (h : 0 ≤ laneS l n t) : 0 ≤ n ∧ n < (l.length : Int) ∧ chF l n = rd_T87 l n ∧ laneS l n t < ((rd_T87 l n).f1.length : Int) := by
  have hne : chF l n ≠ z87 := by
    intro e
    unfold laneS at h
    rw [e] at h
    exact absurd h (show ¬ 0 ≤ seek [] t by unfold seek; decide)
  obtain ⟨a, b, c⟩ := chF_in hne
  refine ⟨a, b, c, ?_⟩
  have := (seek_le ((chF l n).f1.map (·.f0)) t).2
  rw [List.length_map, c] at this
  unfold laneS
  rw [c]
  exact this
theorem recvS_in {l : List S87} {n t : Int} (h : 0 ≤ recvS l n t) : 0 ≤ n ∧ n < (l.length : Int) ∧ chF l n = rd_T87 l n ∧ recvS l n t < ((rd_T87 l n).f2.length : Int) := by
  have hne : chF l n ≠ z87 := by
    intro e
    unfold recvS at h
    rw [e] at h
    exact absurd h (show ¬ 0 ≤ seek [] t by unfold seek; decide)
  obtain ⟨a, b, c⟩ := chF_in hne
  refine ⟨a, b, c, ?_⟩
  have := (seek_le ((chF l n).f2.map (·.f0)) t).2
  rw [List.length_map, c] at this
  unfold recvS
  rw [c]
  exact this
def sendsB (l : List S87) (n t r : Int) : Bool := decide (0 ≤ laneS l n t) || !hasB r 1
def receivesB (l : List S87) (n t r : Int) : Bool := decide (0 ≤ recvS l n t) || !hasB r 2
def opensLaneB (l : List S87) (n t r : Int) : Bool := !hasB r 1 || (decide (0 ≤ laneS l n t) && (rd_T103 (rd_T87 l n).f1 (laneS l n t)).f2)
def opensReceiverB (l : List S87) (n t r : Int) : Bool := !hasB r 2 || (decide (0 ≤ recvS l n t) && (rd_T105 (rd_T87 l n).f2 (recvS l n t)).f1)
set_option maxRecDepth 100000 in
set_option maxHeartbeats 2000000 in
theorem sends_calls (v0 v1 v3 v4 v5 v6 v7 : Value) (A : Option Addr) (c : Nat) (l : List S87) (n t r : Int) (w : World) (hc : l.length ≤ c) (hs : Small l) (hr : Kd.C k87 w A l.length l) :
    Calls Tryd.prog 45 #[.agg (NC v0 v1 v3 v4 v5 v6 v7 A c l n t r)] w fun e w' => e = .returned (.bool (sendsB l n t r)) ∧ Below w.heap.size w w' := by
  have HC := Aside0.mk (And.intro hc (And.intro hr hs))
  clear hc hr hs
  obtain ⟨b1, hb1⟩ : ∃ b, hasB r 1 = b := ⟨_, rfl⟩
  obtain ⟨s, hs⟩ : ∃ s, laneS l n t = s := ⟨_, rfl⟩
  have HB := Aside0.mk (And.intro hb1 hs)
  unfold sendsB
  rw [hb1, hs]
  clear hb1 hs
  have key : ∀ (q : Bool), (decide (0 ≤ s) || !b1) = q → Calls Tryd.prog 45 #[.agg (NC v0 v1 v3 v4 v5 v6 v7 A c l n t r)] w fun e w' => e = .returned (.bool q) ∧ Below w.heap.size w w' := by
    intro q hq
    have HQ := Aside0.mk hq
    clear hq
    go_enter Tryd.func45, Tryd.ntmps45
    go_upto_region 1 with fail
    have BK : Aside0 (Below w.heap.size w (w.alloc (Obj.cells (NC v0 v1 v3 v4 v5 v6 v7 A c l n t r) 93))) := ⟨(Below.refl _ w).alloc (Nat.le_refl _) _⟩
    have E0 : Aside0 ((w.alloc (Obj.cells (NC v0 v1 v3 v4 v5 v6 v7 A c l n t r) 93)).heap[w.heap.size]? = some (.cells (NC v0 v1 v3 v4 v5 v6 v7 A c l n t r) 93 (0, 0))) := ⟨World.alloc_heap_new w _⟩
    generalize w.alloc (Obj.cells (NC v0 v1 v3 v4 v5 v6 v7 A c l n t r) 93) = w2 at BK E0 ⊢
    have c8 : w2.cell? ⟨w.heap.size, 8, none⟩ = some (.int .i64 n) := by simp [World.cell?, E0.out]
    have c9 : w2.cell? ⟨w.heap.size, 9, none⟩ = some (.int .i64 t) := by simp [World.cell?, E0.out]
    go_upto_region 2 with (first | ((with_reducible refine gate_ (.load 28 (.tmp 6)) rfl ?_); refine load_any rfl 28 (.tmp 6) rfl ⟨w.heap.size, 0, none⟩ rfl #[v0, v1, .slice A l.length c, v3, v4, v5, v6, v7] _ (conf_cells E0.out) Tryd.underlying28 rfl (by kernel_rfl) ?_) | (go_at_call 73; refine (confLane_calls v0 v1 v3 v4 v5 v6 v7 A c l n t _ HC.out.1 HC.out.2.2 (Kd.C_below HC.out.2.1 BK.out)).mono ?_; rintro e w3 ⟨rfl, hB3⟩; rw [HB.out.2]; have W3 := Aside0.mk hB3; clear hB3))
    have E3 := Aside0.mk (obj_below W3.out E0.out)
    have B3 : Aside0 (Below w.heap.size w w3) := ⟨BK.out.trans (W3.out.mono BK.out.size)⟩
    clear c8 c9
    have c8 : w3.cell? ⟨w.heap.size, 8, none⟩ = some (.int .i64 n) := by simp [World.cell?, E3.out]
    have c2 : w3.cell? ⟨w.heap.size, 2, none⟩ = some (.slice A l.length c) := by simp [World.cell?, E3.out]
    by_cases h0 : 0 ≤ s
    · have d0 : decide (0 ≤ s) = true := decide_eq_true h0
      go_wp2_with fail
      go_ret
      exact ⟨by rw [← HQ.out]; simp [*], B3.out⟩
    · have d0 : decide (0 ≤ s) = false := decide_eq_false h0
      rw [d0]
      cases b1 with
      | true =>
        go_wp2_with (first | ((with_reducible refine gate_ (.load 93 (.tmp 1)) rfl ?_); (try (refine gate_guard (by rfl) ?_; dsimp only)); refine load_blk rfl 93 (.tmp 1) rfl w.heap.size _ 93 rfl _ E3.out Tryd.underlying93 rfl (by kernel_rfl) ?_) | (go_at_call 72; refine (has_calls v0 v1 v3 v4 v5 v6 v7 A c l n t r 1 _).mono ?_; rintro e w4 ⟨rfl, hB4⟩; rw [HB.out.1]; have W4 := Aside0.mk hB4; have c2' := pw_cell_below hB4 c2; have c8' := pw_cell_below hB4 c8; clear hB4))
        go_ret
        exact ⟨by rw [← HQ.out]; simp [*], B3.out.trans (W4.out.mono B3.out.size)⟩
      | false =>
        go_wp2_with (first | ((with_reducible refine gate_ (.load 93 (.tmp 1)) rfl ?_); (try (refine gate_guard (by rfl) ?_; dsimp only)); refine load_blk rfl 93 (.tmp 1) rfl w.heap.size _ 93 rfl _ E3.out Tryd.underlying93 rfl (by kernel_rfl) ?_) | (go_at_call 72; refine (has_calls v0 v1 v3 v4 v5 v6 v7 A c l n t r 1 _).mono ?_; rintro e w4 ⟨rfl, hB4⟩; rw [HB.out.1]; have W4 := Aside0.mk hB4; have c2' := pw_cell_below hB4 c2; have c8' := pw_cell_below hB4 c8; clear hB4))
        go_ret
        exact ⟨by rw [← HQ.out]; simp [*], B3.out.trans (W4.out.mono B3.out.size)⟩
  exact key _ rfl
set_option maxRecDepth 100000 in
set_option maxHeartbeats 2000000 in
theorem receives_calls (v0 v1 v3 v4 v5 v6 v7 : Value) (A : Option Addr) (c : Nat) (l : List S87) (n t r : Int) (w : World) (hc : l.length ≤ c) (hs : Small l) (hr : Kd.C k87 w A l.length l) :
    Calls Tryd.prog 46 #[.agg (NC v0 v1 v3 v4 v5 v6 v7 A c l n t r)] w fun e w' => e = .returned (.bool (receivesB l n t r)) ∧ Below w.heap.size w w' := by
  have HC := Aside0.mk (And.intro hc (And.intro hr hs))
  clear hc hr hs
  obtain ⟨b1, hb1⟩ : ∃ b, hasB r 2 = b := ⟨_, rfl⟩
  obtain ⟨s, hs⟩ : ∃ s, recvS l n t = s := ⟨_, rfl⟩
  have HB := Aside0.mk (And.intro hb1 hs)
  unfold receivesB
  rw [hb1, hs]
  clear hb1 hs
  have key : ∀ (q : Bool), (decide (0 ≤ s) || !b1) = q → Calls Tryd.prog 46 #[.agg (NC v0 v1 v3 v4 v5 v6 v7 A c l n t r)] w fun e w' => e = .returned (.bool q) ∧ Below w.heap.size w w' := by
    intro q hq
    have HQ := Aside0.mk hq
    clear hq
    go_enter Tryd.func46, Tryd.ntmps46
    go_upto_region 1 with fail
    have BK : Aside0 (Below w.heap.size w (w.alloc (Obj.cells (NC v0 v1 v3 v4 v5 v6 v7 A c l n t r) 93))) := ⟨(Below.refl _ w).alloc (Nat.le_refl _) _⟩
    have E0 : Aside0 ((w.alloc (Obj.cells (NC v0 v1 v3 v4 v5 v6 v7 A c l n t r) 93)).heap[w.heap.size]? = some (.cells (NC v0 v1 v3 v4 v5 v6 v7 A c l n t r) 93 (0, 0))) := ⟨World.alloc_heap_new w _⟩
    generalize w.alloc (Obj.cells (NC v0 v1 v3 v4 v5 v6 v7 A c l n t r) 93) = w2 at BK E0 ⊢
    have c8 : w2.cell? ⟨w.heap.size, 8, none⟩ = some (.int .i64 n) := by simp [World.cell?, E0.out]
    have c9 : w2.cell? ⟨w.heap.size, 9, none⟩ = some (.int .i64 t) := by simp [World.cell?, E0.out]
    go_upto_region 2 with (first | ((with_reducible refine gate_ (.load 28 (.tmp 6)) rfl ?_); refine load_any rfl 28 (.tmp 6) rfl ⟨w.heap.size, 0, none⟩ rfl #[v0, v1, .slice A l.length c, v3, v4, v5, v6, v7] _ (conf_cells E0.out) Tryd.underlying28 rfl (by kernel_rfl) ?_) | (go_at_call 74; refine (confReceiver_calls v0 v1 v3 v4 v5 v6 v7 A c l n t _ HC.out.1 HC.out.2.2 (Kd.C_below HC.out.2.1 BK.out)).mono ?_; rintro e w3 ⟨rfl, hB3⟩; rw [HB.out.2]; have W3 := Aside0.mk hB3; clear hB3))
    have E3 := Aside0.mk (obj_below W3.out E0.out)
    have B3 : Aside0 (Below w.heap.size w w3) := ⟨BK.out.trans (W3.out.mono BK.out.size)⟩
    clear c8 c9
    have c8 : w3.cell? ⟨w.heap.size, 8, none⟩ = some (.int .i64 n) := by simp [World.cell?, E3.out]
    have c2 : w3.cell? ⟨w.heap.size, 2, none⟩ = some (.slice A l.length c) := by simp [World.cell?, E3.out]
    by_cases h0 : 0 ≤ s
    · have d0 : decide (0 ≤ s) = true := decide_eq_true h0
      go_wp2_with fail
      go_ret
      exact ⟨by rw [← HQ.out]; simp [*], B3.out⟩
    · have d0 : decide (0 ≤ s) = false := decide_eq_false h0
      rw [d0]
      cases b1 with
      | true =>
        go_wp2_with (first | ((with_reducible refine gate_ (.load 93 (.tmp 1)) rfl ?_); (try (refine gate_guard (by rfl) ?_; dsimp only)); refine load_blk rfl 93 (.tmp 1) rfl w.heap.size _ 93 rfl _ E3.out Tryd.underlying93 rfl (by kernel_rfl) ?_) | (go_at_call 72; refine (has_calls v0 v1 v3 v4 v5 v6 v7 A c l n t r 2 _).mono ?_; rintro e w4 ⟨rfl, hB4⟩; rw [HB.out.1]; have W4 := Aside0.mk hB4; have c2' := pw_cell_below hB4 c2; have c8' := pw_cell_below hB4 c8; clear hB4))
        go_ret
        exact ⟨by rw [← HQ.out]; simp [*], B3.out.trans (W4.out.mono B3.out.size)⟩
      | false =>
        go_wp2_with (first | ((with_reducible refine gate_ (.load 93 (.tmp 1)) rfl ?_); (try (refine gate_guard (by rfl) ?_; dsimp only)); refine load_blk rfl 93 (.tmp 1) rfl w.heap.size _ 93 rfl _ E3.out Tryd.underlying93 rfl (by kernel_rfl) ?_) | (go_at_call 72; refine (has_calls v0 v1 v3 v4 v5 v6 v7 A c l n t r 2 _).mono ?_; rintro e w4 ⟨rfl, hB4⟩; rw [HB.out.1]; have W4 := Aside0.mk hB4; have c2' := pw_cell_below hB4 c2; have c8' := pw_cell_below hB4 c8; clear hB4))
        go_ret
        exact ⟨by rw [← HQ.out]; simp [*], B3.out.trans (W4.out.mono B3.out.size)⟩
  exact key _ rfl
set_option maxRecDepth 100000 in
set_option maxHeartbeats 2000000 in
theorem opensLane_calls (v0 v1 v3 v4 v5 v6 v7 : Value) (A : Option Addr) (c : Nat) (l : List S87) (n t r : Int) (w : World) (hc : l.length ≤ c) (hs : Small l) (hr : Kd.C k87 w A l.length l) :
    Calls Tryd.prog 53 #[.agg (NC v0 v1 v3 v4 v5 v6 v7 A c l n t r)] w fun e w' => e = .returned (.bool (opensLaneB l n t r)) ∧ Below w.heap.size w w' := by
  have HC := Aside0.mk (And.intro hc (And.intro hr hs))
  clear hc hr hs
  obtain ⟨b1, hb1⟩ : ∃ b, hasB r 1 = b := ⟨_, rfl⟩
  obtain ⟨s, hs⟩ : ∃ s, laneS l n t = s := ⟨_, rfl⟩
  have HB := Aside0.mk (And.intro hb1 hs)
  unfold opensLaneB
  rw [hb1, hs]
  clear hb1 hs
  have key : ∀ (q : Bool), (!b1 || (decide (0 ≤ s) && (rd_T103 (rd_T87 l n).f1 s).f2)) = q → Calls Tryd.prog 53 #[.agg (NC v0 v1 v3 v4 v5 v6 v7 A c l n t r)] w fun e w' => e = .returned (.bool q) ∧ Below w.heap.size w w' := by
    intro q hq
    have HQ := Aside0.mk hq
    clear hq
    go_enter Tryd.func53, Tryd.ntmps53
    go_upto_region 1 with fail
    have BK : Aside0 (Below w.heap.size w (w.alloc (Obj.cells (NC v0 v1 v3 v4 v5 v6 v7 A c l n t r) 93))) := ⟨(Below.refl _ w).alloc (Nat.le_refl _) _⟩
    have E0 : Aside0 ((w.alloc (Obj.cells (NC v0 v1 v3 v4 v5 v6 v7 A c l n t r) 93)).heap[w.heap.size]? = some (.cells (NC v0 v1 v3 v4 v5 v6 v7 A c l n t r) 93 (0, 0))) := ⟨World.alloc_heap_new w _⟩
    generalize w.alloc (Obj.cells (NC v0 v1 v3 v4 v5 v6 v7 A c l n t r) 93) = w2 at BK E0 ⊢
    have c8 : w2.cell? ⟨w.heap.size, 8, none⟩ = some (.int .i64 n) := by simp [World.cell?, E0.out]
    have c9 : w2.cell? ⟨w.heap.size, 9, none⟩ = some (.int .i64 t) := by simp [World.cell?, E0.out]
    go_upto_region 2 with (first | ((with_reducible refine gate_ (.load 28 (.tmp 6)) rfl ?_); refine load_any rfl 28 (.tmp 6) rfl ⟨w.heap.size, 0, none⟩ rfl #[v0, v1, .slice A l.length c, v3, v4, v5, v6, v7] _ (conf_cells E0.out) Tryd.underlying28 rfl (by kernel_rfl) ?_) | (go_at_call 73; refine (confLane_calls v0 v1 v3 v4 v5 v6 v7 A c l n t _ HC.out.1 HC.out.2.2 (Kd.C_below HC.out.2.1 BK.out)).mono ?_; rintro e w3 ⟨rfl, hB3⟩; rw [HB.out.2]; have W3 := Aside0.mk hB3; clear hB3))
    have E3 := Aside0.mk (obj_below W3.out E0.out)
    have B3 : Aside0 (Below w.heap.size w w3) := ⟨BK.out.trans (W3.out.mono BK.out.size)⟩
    clear c8 c9
    have c8 : w3.cell? ⟨w.heap.size, 8, none⟩ = some (.int .i64 n) := by simp [World.cell?, E3.out]
    have c2 : w3.cell? ⟨w.heap.size, 2, none⟩ = some (.slice A l.length c) := by simp [World.cell?, E3.out]
    cases b1 with
    | false =>
      go_wp2_with (first | ((with_reducible refine gate_ (.load 93 (.tmp 1)) rfl ?_); (try (refine gate_guard (by rfl) ?_; dsimp only)); refine load_blk rfl 93 (.tmp 1) rfl w.heap.size _ 93 rfl _ E3.out Tryd.underlying93 rfl (by kernel_rfl) ?_) | (go_at_call 72; refine (has_calls v0 v1 v3 v4 v5 v6 v7 A c l n t r 1 _).mono ?_; rintro e w4 ⟨rfl, hB4⟩; rw [HB.out.1]; have W4 := Aside0.mk hB4; have c2' := pw_cell_below hB4 c2; have c8' := pw_cell_below hB4 c8; clear hB4))
      go_ret
      exact ⟨by rw [← HQ.out]; simp [*], B3.out.trans (W4.out.mono B3.out.size)⟩
    | true =>
      by_cases h0 : 0 ≤ s
      · have d0 : decide (0 ≤ s) = true := decide_eq_true h0
        have hmax : max s 0 = s := Int.max_eq_left h0
        rw [hmax]
        obtain ⟨i0, i1, i2, i3⟩ := laneS_in (l := l) (n := n) (t := t) (by rw [HB.out.2]; exact h0)
        rw [HB.out.2] at i3
        obtain ⟨ad, A1, c1, A2, c2', rfl, x0, x1, x2, l1, g1, l2, g2⟩ := at_T87 HC.out.2.1 n i0 i1
        obtain ⟨ad2, eA, y0, y1, y2⟩ := at_T103 g1 s h0 i3
        subst eA
        replace x1 := pw_cell_below B3.out x1
        replace y2 := pw_cell_below B3.out y2
        have HX := Aside0.mk (And.intro x1 y2)
        clear x0 x1 x2 l1 g1 l2 g2 y0 y1 hmax i2
        obtain ⟨bo, hbo⟩ : ∃ b, (rd_T103 (rd_T87 l n).f1 s).f2 = b := ⟨_, rfl⟩
        have HBO := Aside0.mk hbo
        rw [hbo] at HX HQ
        clear hbo
        go_wp2_with (first | ((with_reducible refine gate_ (.load 93 (.tmp 1)) rfl ?_); (try (refine gate_guard (by rfl) ?_; dsimp only)); refine load_blk rfl 93 (.tmp 1) rfl w.heap.size _ 93 rfl _ E3.out Tryd.underlying93 rfl (by kernel_rfl) ?_) | (go_at_call 72; refine (has_calls v0 v1 v3 v4 v5 v6 v7 (some ad) c l n t r 1 _).mono ?_; rintro e w4 ⟨rfl, hB4⟩; rw [HB.out.1]; have W4 := Aside0.mk hB4; have c2' := pw_cell_below hB4 c2; have c8' := pw_cell_below hB4 c8; have y0 := pw_cell_below hB4 HX.out.1; have y1 := pw_cell_below hB4 HX.out.2; clear hB4))
        go_ret
        exact ⟨by rw [← HQ.out]; cases bo <;> simp [*], B3.out.trans (W4.out.mono B3.out.size)⟩
      · have d0 : decide (0 ≤ s) = false := decide_eq_false h0
        go_wp2_with (first | ((with_reducible refine gate_ (.load 93 (.tmp 1)) rfl ?_); (try (refine gate_guard (by rfl) ?_; dsimp only)); refine load_blk rfl 93 (.tmp 1) rfl w.heap.size _ 93 rfl _ E3.out Tryd.underlying93 rfl (by kernel_rfl) ?_) | (go_at_call 72; refine (has_calls v0 v1 v3 v4 v5 v6 v7 A c l n t r 1 _).mono ?_; rintro e w4 ⟨rfl, hB4⟩; rw [HB.out.1]; have W4 := Aside0.mk hB4; have c2' := pw_cell_below hB4 c2; have c8' := pw_cell_below hB4 c8; clear hB4))
        go_ret
        exact ⟨by rw [← HQ.out]; simp [*], B3.out.trans (W4.out.mono B3.out.size)⟩
  exact key _ rfl
set_option maxRecDepth 100000 in
set_option maxHeartbeats 2000000 in
theorem opensReceiver_calls (v0 v1 v3 v4 v5 v6 v7 : Value) (A : Option Addr) (c : Nat) (l : List S87) (n t r : Int) (w : World) (hc : l.length ≤ c) (hs : Small l) (hr : Kd.C k87 w A l.length l) :
    Calls Tryd.prog 54 #[.agg (NC v0 v1 v3 v4 v5 v6 v7 A c l n t r)] w fun e w' => e = .returned (.bool (opensReceiverB l n t r)) ∧ Below w.heap.size w w' := by
  have HC := Aside0.mk (And.intro hc (And.intro hr hs))
  clear hc hr hs
  obtain ⟨b1, hb1⟩ : ∃ b, hasB r 2 = b := ⟨_, rfl⟩
  obtain ⟨s, hs⟩ : ∃ s, recvS l n t = s := ⟨_, rfl⟩
  have HB := Aside0.mk (And.intro hb1 hs)
  unfold opensReceiverB
  rw [hb1, hs]
  clear hb1 hs
  have key : ∀ (q : Bool), (!b1 || (decide (0 ≤ s) && (rd_T105 (rd_T87 l n).f2 s).f1)) = q → Calls Tryd.prog 54 #[.agg (NC v0 v1 v3 v4 v5 v6 v7 A c l n t r)] w fun e w' => e = .returned (.bool q) ∧ Below w.heap.size w w' := by
    intro q hq
    have HQ := Aside0.mk hq
    clear hq
    go_enter Tryd.func54, Tryd.ntmps54
    go_upto_region 1 with fail
    have BK : Aside0 (Below w.heap.size w (w.alloc (Obj.cells (NC v0 v1 v3 v4 v5 v6 v7 A c l n t r) 93))) := ⟨(Below.refl _ w).alloc (Nat.le_refl _) _⟩
    have E0 : Aside0 ((w.alloc (Obj.cells (NC v0 v1 v3 v4 v5 v6 v7 A c l n t r) 93)).heap[w.heap.size]? = some (.cells (NC v0 v1 v3 v4 v5 v6 v7 A c l n t r) 93 (0, 0))) := ⟨World.alloc_heap_new w _⟩
    generalize w.alloc (Obj.cells (NC v0 v1 v3 v4 v5 v6 v7 A c l n t r) 93) = w2 at BK E0 ⊢
    have c8 : w2.cell? ⟨w.heap.size, 8, none⟩ = some (.int .i64 n) := by simp [World.cell?, E0.out]
    have c9 : w2.cell? ⟨w.heap.size, 9, none⟩ = some (.int .i64 t) := by simp [World.cell?, E0.out]
    go_upto_region 2 with (first | ((with_reducible refine gate_ (.load 28 (.tmp 6)) rfl ?_); refine load_any rfl 28 (.tmp 6) rfl ⟨w.heap.size, 0, none⟩ rfl #[v0, v1, .slice A l.length c, v3, v4, v5, v6, v7] _ (conf_cells E0.out) Tryd.underlying28 rfl (by kernel_rfl) ?_) | (go_at_call 74; refine (confReceiver_calls v0 v1 v3 v4 v5 v6 v7 A c l n t _ HC.out.1 HC.out.2.2 (Kd.C_below HC.out.2.1 BK.out)).mono ?_; rintro e w3 ⟨rfl, hB3⟩; rw [HB.out.2]; have W3 := Aside0.mk hB3; clear hB3))
    have E3 := Aside0.mk (obj_below W3.out E0.out)
    have B3 : Aside0 (Below w.heap.size w w3) := ⟨BK.out.trans (W3.out.mono BK.out.size)⟩
    clear c8 c9
    have c8 : w3.cell? ⟨w.heap.size, 8, none⟩ = some (.int .i64 n) := by simp [World.cell?, E3.out]
    have c2 : w3.cell? ⟨w.heap.size, 2, none⟩ = some (.slice A l.length c) := by simp [World.cell?, E3.out]
    cases b1 with
    | false =>
      go_wp2_with (first | ((with_reducible refine gate_ (.load 93 (.tmp 1)) rfl ?_); (try (refine gate_guard (by rfl) ?_; dsimp only)); refine load_blk rfl 93 (.tmp 1) rfl w.heap.size _ 93 rfl _ E3.out Tryd.underlying93 rfl (by kernel_rfl) ?_) | (go_at_call 72; refine (has_calls v0 v1 v3 v4 v5 v6 v7 A c l n t r 2 _).mono ?_; rintro e w4 ⟨rfl, hB4⟩; rw [HB.out.1]; have W4 := Aside0.mk hB4; have c2' := pw_cell_below hB4 c2; have c8' := pw_cell_below hB4 c8; clear hB4))
      go_ret
      exact ⟨by rw [← HQ.out]; simp [*], B3.out.trans (W4.out.mono B3.out.size)⟩
    | true =>
      by_cases h0 : 0 ≤ s
      · have d0 : decide (0 ≤ s) = true := decide_eq_true h0
        have hmax : max s 0 = s := Int.max_eq_left h0
        rw [hmax]
        obtain ⟨i0, i1, i2, i3⟩ := recvS_in (l := l) (n := n) (t := t) (by rw [HB.out.2]; exact h0)
        rw [HB.out.2] at i3
        obtain ⟨ad, A1, c1, A2, c2', rfl, x0, x1, x2, l1, g1, l2, g2⟩ := at_T87 HC.out.2.1 n i0 i1
        obtain ⟨ad2, eA, y0, y1⟩ := at_T105 g2 s h0 i3
        subst eA
        replace x2 := pw_cell_below B3.out x2
        replace y1 := pw_cell_below B3.out y1
        have HX := Aside0.mk (And.intro x2 y1)
        clear x0 x1 x2 l1 g1 l2 g2 y0 hmax i2
        obtain ⟨bo, hbo⟩ : ∃ b, (rd_T105 (rd_T87 l n).f2 s).f1 = b := ⟨_, rfl⟩
        have HBO := Aside0.mk hbo
        rw [hbo] at HX HQ
        clear hbo
        go_wp2_with (first | ((with_reducible refine gate_ (.load 93 (.tmp 1)) rfl ?_); (try (refine gate_guard (by rfl) ?_; dsimp only)); refine load_blk rfl 93 (.tmp 1) rfl w.heap.size _ 93 rfl _ E3.out Tryd.underlying93 rfl (by kernel_rfl) ?_) | (go_at_call 72; refine (has_calls v0 v1 v3 v4 v5 v6 v7 (some ad) c l n t r 2 _).mono ?_; rintro e w4 ⟨rfl, hB4⟩; rw [HB.out.1]; have W4 := Aside0.mk hB4; have c2' := pw_cell_below hB4 c2; have c8' := pw_cell_below hB4 c8; have y0 := pw_cell_below hB4 HX.out.1; have y1 := pw_cell_below hB4 HX.out.2; clear hB4))
        go_ret
        exact ⟨by rw [← HQ.out]; cases bo <;> simp [*], B3.out.trans (W4.out.mono B3.out.size)⟩
      · have d0 : decide (0 ≤ s) = false := decide_eq_false h0
        go_wp2_with (first | ((with_reducible refine gate_ (.load 93 (.tmp 1)) rfl ?_); (try (refine gate_guard (by rfl) ?_; dsimp only)); refine load_blk rfl 93 (.tmp 1) rfl w.heap.size _ 93 rfl _ E3.out Tryd.underlying93 rfl (by kernel_rfl) ?_) | (go_at_call 72; refine (has_calls v0 v1 v3 v4 v5 v6 v7 A c l n t r 2 _).mono ?_; rintro e w4 ⟨rfl, hB4⟩; rw [HB.out.1]; have W4 := Aside0.mk hB4; have c2' := pw_cell_below hB4 c2; have c8' := pw_cell_below hB4 c8; clear hB4))
        go_ret
        exact ⟨by rw [← HQ.out]; simp [*], B3.out.trans (W4.out.mono B3.out.size)⟩
  exact key _ rfl
end Go.Proofs.YtoliipbmcekciaaDoor.QDd
