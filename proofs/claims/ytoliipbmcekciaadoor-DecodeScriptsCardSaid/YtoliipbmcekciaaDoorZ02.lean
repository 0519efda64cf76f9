/- Texts of this claim, joined: RADe. -/
import Derived.Test.YtoliipbmcekciaaDoorZ01
namespace Go.Proofs.YtoliipbmcekciaaDoor.QDd
open Go.RowKit Go.Proofs.YtoliipbmcekciaaDoorW.PrintWords Go.Proofs.YtoliipbmcekciaaDoorW.PrintLast Go.Proofs.YtoliipbmcekciaaDoorW.PrintMore
open Go.Proofs.YtoliipbmcekciaaDoor.QDc (tk putL putN obj_below take_at yields_blk load_blk load_any store_blk blk_setCells setAll far_setCells below_setCells)
set_option linter.unusedVariables false
set_option linter.unusedSimpArgs false
structure Cf where
  A0 : Option Addr
  c0 : Nat
  l0 : List Int
  A1 : Option Addr
  c1 : Nat
  l1 : List S97
  A2 : Option Addr
  c2 : Nat
  l2 : List S87
  A3 : Option Addr
  c3 : Nat
  l3 : List S107
  A4 : Option Addr
  c4 : Nat
  l4 : List Int
  a5 : Int
  a6 : Int
  a7 : Int
abbrev Cf.v (C : Cf) : Array Value := #[.slice C.A0 C.l0.length C.c0, .slice C.A1 C.l1.length C.c1, .slice C.A2 C.l2.length C.c2, .slice C.A3 C.l3.length C.c3, .slice C.A4 C.l4.length C.c4, .int .i64 C.a5, .int .i64 C.a6, .int .i64 C.a7]
structure Cf.At (C : Cf) (w : World) : Prop where
  r0 : Kd.C (Kd.int .u64) w C.A0 C.l0.length C.l0
  h0 : C.l0.length ≤ C.c0
  r1 : Kd.C k97 w C.A1 C.l1.length C.l1
  h1 : C.l1.length ≤ C.c1
  r2 : Kd.C k87 w C.A2 C.l2.length C.l2
  h2 : C.l2.length ≤ C.c2
  r3 : Kd.C k107 w C.A3 C.l3.length C.l3
  h3 : C.l3.length ≤ C.c3
  r4 : Kd.C (Kd.int .i64) w C.A4 C.l4.length C.l4
  h4 : C.l4.length ≤ C.c4
theorem Cf.At.below {C : Cf} {w w' : World} (h : C.At w) (hb : Below w.heap.size w w') : C.At w' :=
  ⟨Kd.C_below h.r0 hb, h.h0, Kd.C_below h.r1 hb, h.h1, Kd.C_below h.r2 hb, h.h2, Kd.C_below h.r3 hb, h.h3, Kd.C_below h.r4 hb, h.h4⟩
structure Cf.Lim (C : Cf) : Prop where
  l0 : C.l0.length ≤ 1000
  l1 : C.l1.length ≤ 1000
  l2 : Small C.l2
  l3 : C.l3.length ≤ 1000
  l4 : C.l4.length ≤ 1000
  u : ∀ x ∈ C.l0, U64 x
theorem Cf.Lim.u64 {C : Cf} (h : C.Lim) {i : Int} (h0 : 0 ≤ i) (h1 : i < (C.l0.length : Int)) : U64 (rd C.l0 i) := by
  unfold rd
  have hlt : i.toNat < C.l0.length := by omega
  rw [List.getD_eq_getElem?_getD, List.getElem?_eq_getElem hlt]
  exact h.u _ (List.getElem_mem hlt)
/-- The box of the settings. -/
theorem cf_cell {C : Cf} {w : World} {g : Nat} (h : w.heap[g]? = some (.cells C.v 28 (0, 0))) : w.cell? ⟨g, 0, none⟩ = some (.slice C.A0 C.l0.length C.c0) ∧ w.cell? ⟨g, 1, none⟩ = some (.slice C.A1 C.l1.length C.c1) ∧ w.cell? ⟨g, 2, none⟩ = some (.slice C.A2 C.l2.length C.c2) ∧ w.cell? ⟨g, 3, none⟩ = some (.slice C.A3 C.l3.length C.c3) ∧ w.cell? ⟨g, 4, none⟩ = some (.slice C.A4 C.l4.length C.c4) ∧ w.cell? ⟨g, 5, none⟩ = some (.int .i64 C.a5) ∧ w.cell? ⟨g, 6, none⟩ = some (.int .i64 C.a6) ∧ w.cell? ⟨g, 7, none⟩ = some (.int .i64 C.a7) := by
  refine ⟨?_, ?_, ?_, ?_, ?_, ?_, ?_, ?_⟩ <;> simp [World.cell?, h]
def isTB (C : Cf) (n : Int) : Bool := decide (0 ≤ n ∧ n < (C.l1.length : Int))
def isLB (C : Cf) (n : Int) : Bool := decide (0 ≤ n ∧ n < (C.l0.length : Int))
def winB (n a b : Int) : Bool := decide (a ≤ n ∧ n ≤ b)
set_option maxRecDepth 100000 in
theorem win_calls (n a b : Int) (w : World) : Calls Tryd.prog 68 #[.int .i64 n, .int .i64 a, .int .i64 b] w fun e w' => e = .returned (.bool (winB n a b)) ∧ w = w' := by
  have key : ∀ p q : Bool, decide (a ≤ n) = p → decide (n ≤ b) = q → Calls Tryd.prog 68 #[.int .i64 n, .int .i64 a, .int .i64 b] w fun e w' => e = .returned (.bool (p && q)) ∧ w = w' := by
    intro p q h1 h2
    cases p <;> cases q <;> (go_enter Tryd.func68, Tryd.ntmps68; go_wp2; go_ret; exact ⟨rfl, rfl⟩)
  have := key _ _ rfl rfl
  rwa [← Bool.decide_and] at this
set_option maxRecDepth 100000 in
theorem ten_calls (C : Cf) (n : Int) (w : World) : Calls Tryd.prog 47 #[.agg C.v, .int .i64 n] w fun e w' => e = .returned (.bool (isTB C n)) ∧ Below w.heap.size w w' := by
  have key : ∀ p q : Bool, decide (0 ≤ n) = p → decide (n < (C.l1.length : Int)) = q → Calls Tryd.prog 47 #[.agg C.v, .int .i64 n] w fun e w' => e = .returned (.bool (p && q)) ∧ Below w.heap.size w w' := by
    intro p q h1 h2
    cases p <;> cases q <;> (go_enter Tryd.func47, Tryd.ntmps47; go_wp2; go_ret; exact ⟨rfl, (Below.refl _ w).alloc (Nat.le_refl _) _⟩)
  have := key _ _ rfl rfl
  rwa [← Bool.decide_and] at this
set_option maxRecDepth 100000 in
theorem lab_calls (C : Cf) (n : Int) (w : World) : Calls Tryd.prog 67 #[.agg C.v, .int .i64 n] w fun e w' => e = .returned (.bool (isLB C n)) ∧ Below w.heap.size w w' := by
  have key : ∀ p q : Bool, decide (0 ≤ n) = p → decide (n < (C.l0.length : Int)) = q → Calls Tryd.prog 67 #[.agg C.v, .int .i64 n] w fun e w' => e = .returned (.bool (p && q)) ∧ Below w.heap.size w w' := by
    intro p q h1 h2
    cases p <;> cases q <;> (go_enter Tryd.func67, Tryd.ntmps67; go_wp2; go_ret; exact ⟨rfl, (Below.refl _ w).alloc (Nat.le_refl _) _⟩)
  have := key _ _ rfl rfl
  rwa [← Bool.decide_and] at this
set_option maxRecDepth 100000 in
set_option maxHeartbeats 1000000 in
theorem flo_calls (C : Cf) (a b : Int) (w : World) (hC : C.At w) (hL : C.Lim) (h0 : 0 ≤ a) (h1 : a < (C.l0.length : Int)) : Calls Tryd.prog 48 #[.agg C.v, .int .i64 a, .int .i64 b] w fun e w' => e = .returned (.bool (hasBit (rd C.l0 a) b)) ∧ Below w.heap.size w w' := by
  have HH := Aside0.mk (R01Has_eq (hL.u64 h0 h1) b 66 (by decide))
  have HC := Aside0.mk hC
  clear hC hL
  go_enter Tryd.func48, Tryd.ntmps48
  go_upto_region 1 with fail
  have BK : Aside0 (Below w.heap.size w (w.alloc (.cells C.v 28))) := ⟨(Below.refl _ w).alloc (Nat.le_refl _) _⟩
  have E0 : Aside0 ((w.alloc (.cells C.v 28)).heap[w.heap.size]? = some (.cells C.v 28 (0, 0))) := ⟨World.alloc_heap_new w _⟩
  generalize w.alloc (.cells C.v 28) = w2 at BK E0 ⊢
  have x0 := (cf_cell E0.out).1
  obtain ⟨ad, eA, u0⟩ := Kd.at_int (HC.out.below BK.out).r0 a h0 h1
  rw [eA] at x0
  go_wp2_with (first | (go_at_call 66; refine (rampartref01_Has.calls 66 (rd C.l0 a) b (hasBit (rd C.l0 a) b) _ HH.out).mono ?_; rintro e w' ⟨rfl, ⟨nd, rfl⟩⟩))
  go_ret
  exact ⟨rfl, pw_below_drewN BK.out _⟩
end Go.Proofs.YtoliipbmcekciaaDoor.QDd
namespace Go.Proofs.YtoliipbmcekciaaDoor.QDd
open Go.RowKit Go.Proofs.YtoliipbmcekciaaDoorW.PrintWords Go.Proofs.YtoliipbmcekciaaDoorW.PrintLast Go.Proofs.YtoliipbmcekciaaDoorW.PrintMore
open Go.Proofs.YtoliipbmcekciaaDoor.QDc (tk putL putN obj_below take_at yields_blk load_blk load_any store_blk blk_setCells setAll far_setCells below_setCells)
set_option linter.unusedVariables false
set_option linter.unusedSimpArgs false
/-- The first place, from one on, at which something is told. -/
def scan (f : Nat → Int) : Nat → Nat → Option (Nat × Int)
  | _, 0 => none
  | m, d + 1 => if f m = 0 then scan f (m + 1) d else some (m, f m)
theorem scan_hit {f : Nat → Int} {i : Nat} (hi : f i ≠ 0) : ∀ (d m : Nat), m ≤ i → i < m + d → (∀ j, m ≤ j → j < i → f j = 0) → scan f m d = some (i, f i)
  | 0, m, h1, h2, _ => absurd h2 (by omega)
  | d + 1, m, h1, h2, hj => by
    unfold scan
    by_cases e : m = i
    · subst e; rw [if_neg hi]
    · rw [if_pos (hj m (Nat.le_refl _) (by omega))]
      exact scan_hit hi d (m + 1) (by omega) (by omega) (fun j h3 h4 => hj j (by omega) h4)
theorem scan_none {f : Nat → Int} : ∀ (d m : Nat), (∀ j, m ≤ j → j < m + d → f j = 0) → scan f m d = none
  | 0, m, _ => rfl
  | d + 1, m, hj => by
    unfold scan
    rw [if_pos (hj m (Nat.le_refl _) (by omega))]
    exact scan_none d (m + 1) (fun j h3 h4 => hj j (by omega) (by omega))
def toldOf : Option (Nat × Int) → Int × Int
  | none => (0, 0)
  | some (i, e) => ((i : Int), e)
theorem told_hit {f : Nat → Int} {i n : Nat} (hi : f i ≠ 0) (hn : i < n) (hj : ∀ j, j < i → f j = 0) : toldOf (scan f 0 n) = ((i : Int), f i) := by rw [scan_hit hi n 0 (Nat.zero_le _) (by omega) (fun j _ h => hj j h)]; rfl
theorem told_none {f : Nat → Int} {n : Nat} (hj : ∀ j, j < n → f j = 0) : toldOf (scan f 0 n) = (0, 0) := by rw [scan_none n 0 (fun j _ h => hj j (by omega))]; rfl
/-- The boxes of a function that tells. -/
structure TB (C : Cf) (w w2 : World) : Prop where
  b : Below w.heap.size w w2
  e0 : w2.heap[w.heap.size]? = some (.cells C.v 28 (0, 0))
  e1 : w2.heap[w.heap.size + 1]? = some (.cells #[.int .i64 0, .int .i64 0] 90 (0, 0))
theorem TB.start (C : Cf) (w : World) : TB C w ((w.alloc (.cells C.v 28)).alloc (.cells #[.int .i64 0, .int .i64 0] 90)) :=
  ⟨((Below.refl _ w).alloc (Nat.le_refl _) _).alloc (by simp) _, (Below.heap_alloc _ _ _ (by simp)).trans (World.alloc_heap_new w _), by have := World.alloc_heap_new (w.alloc (.cells C.v 28)) (.cells #[.int .i64 0, .int .i64 0] 90); rwa [World.size_alloc] at this⟩
theorem TB.below {C : Cf} {w w2 w3 : World} (h : TB C w w2) (hb : Below w2.heap.size w2 w3) : TB C w w3 := ⟨h.b.trans (hb.mono h.b.size), obj_below hb h.e0, obj_below hb h.e1⟩
theorem TB.r {C : Cf} {w w2 : World} (h : TB C w w2) : w2.cell? ⟨w.heap.size + 1, 0, none⟩ = some (.int .i64 0) ∧ w2.cell? ⟨w.heap.size + 1, 1, none⟩ = some (.int .i64 0) ∧ w2.frozen? ⟨w.heap.size + 1, 0, none⟩ = false ∧ w2.frozen? ⟨w.heap.size + 1, 1, none⟩ = false := by
  refine ⟨?_, ?_, ?_, ?_⟩ <;> simp [World.cell?, World.frozen?, h.e1]
theorem TB.fin {C : Cf} {w wr : World} (h : TB C w wr) (n e : Int) : Below w.heap.size w ((wr.setCell ⟨w.heap.size + 1, 0, none⟩ (.int .i64 n)).setCell ⟨w.heap.size + 1, 1, none⟩ (.int .i64 e)) ∧ ((wr.setCell ⟨w.heap.size + 1, 0, none⟩ (.int .i64 n)).setCell ⟨w.heap.size + 1, 1, none⟩ (.int .i64 e)).cell? ⟨w.heap.size + 1, 0, none⟩ = some (.int .i64 n) ∧ ((wr.setCell ⟨w.heap.size + 1, 0, none⟩ (.int .i64 n)).setCell ⟨w.heap.size + 1, 1, none⟩ (.int .i64 e)).cell? ⟨w.heap.size + 1, 1, none⟩ = some (.int .i64 e) := by
  have hh : ((wr.setCell ⟨w.heap.size + 1, 0, none⟩ (.int .i64 n)).setCell ⟨w.heap.size + 1, 1, none⟩ (.int .i64 e)).heap[w.heap.size + 1]? = some (.cells #[.int .i64 n, .int .i64 e] 90 (0, 0)) := blk_set (blk_set h.e1 0 _) 1 _
  exact ⟨(h.b.setCell (p := ⟨w.heap.size + 1, 0, none⟩) (by simp) _).setCell (p := ⟨w.heap.size + 1, 1, none⟩) (by simp) _, by simp [World.cell?, hh], by simp [World.cell?, hh]⟩
def okTen (C : Cf) (i : Nat) : Bool := isLB C (rd_T97 C.l1 (i : Int)).f0 && winB (rd_T97 C.l1 (i : Int)).f1 0 256
def tenF (C : Cf) : Int × Int := if C.l1.length > 16 then (0, 3) else if C.l1.length = 0 then (0, 40) else toldOf (scan (fun i => if okTen C i = true then 0 else 40) 0 C.l1.length)
def TenI (C : Cf) (w : World) (m : Nat) (wr : World) : Prop := TB C w wr ∧ m ≤ C.l1.length ∧ ∀ j, j < m → okTen C j = true
set_option maxRecDepth 100000 in
set_option maxHeartbeats 2000000 in
theorem tenants_calls (C : Cf) (w : World) (hC : C.At w) (hL : C.Lim) : Calls Tryd.prog 37 #[.agg C.v] w fun e w' => e = .returned (.agg #[.int .i64 (tenF C).1, .int .i64 (tenF C).2]) ∧ Below w.heap.size w w' := by
  have HC := Aside0.mk hC
  have HL := Aside0.mk hL
  clear hC hL
  have key : ∀ q : Int × Int, tenF C = q → Calls Tryd.prog 37 #[.agg C.v] w fun e w' => e = .returned (.agg #[.int .i64 q.1, .int .i64 q.2]) ∧ Below w.heap.size w w' := by
    rintro ⟨qn, qe⟩ hq
    have HQ := Aside0.mk hq
    clear hq
    go_enter Tryd.func37, Tryd.ntmps37
    go_upto_region 1 with fail
    have HT := Aside0.mk (TB.start C w)
    generalize ((w.alloc (.cells C.v 28)).alloc (.cells #[.int .i64 0, .int .i64 0] 90)) = w2 at HT ⊢
    obtain ⟨A1, hA1⟩ : ∃ A, C.A1 = A := ⟨_, rfl⟩
    have HA1 := Aside0.mk hA1
    clear hA1
    have x1 := (cf_cell HT.out.e0).2.1
    rw [HA1.out] at x1
    obtain ⟨z0, z1, f0, f1⟩ := HT.out.r
    by_cases h16 : C.l1.length > 16
    · have d1 : decide ((C.l1.length : Int) > 16) = true := decide_eq_true (by omega)
      have d1' : decide (16 < C.l1.length) = true := decide_eq_true h16
      have e : tenF C = (0, 3) := if_pos h16
      rw [HQ.out] at e
      simp only [Prod.mk.injEq] at e
      obtain ⟨rfl, rfl⟩ := e
      go_wp2_with fail
      obtain ⟨g0, g1, g2⟩ := HT.out.fin 0 3
      generalize ((w2.setCell ⟨w.heap.size + 1, 0, none⟩ (.int .i64 0)).setCell ⟨w.heap.size + 1, 1, none⟩ (.int .i64 3)) = w3 at g0 g1 g2 ⊢
      exact bodyPost_ret (v := .agg #[.int .i64 0, .int .i64 3]) (by simp [results, Tryd.results37, go_sem, g1, g2]) rfl ⟨rfl, g0⟩
    · have d1 : decide ((C.l1.length : Int) > 16) = false := decide_eq_false (by omega)
      have d1' : decide (16 < C.l1.length) = false := decide_eq_false h16
      by_cases h0 : C.l1.length = 0
      · have e : tenF C = (0, 40) := by unfold tenF; rw [if_neg h16, if_pos h0]
        rw [HQ.out] at e
        simp only [Prod.mk.injEq] at e
        obtain ⟨rfl, rfl⟩ := e
        have d2 : ((C.l1.length : Int) == 0) = true := by simpa using h0
        go_wp2_with fail
        obtain ⟨g0, g1, g2⟩ := HT.out.fin 0 40
        generalize ((w2.setCell ⟨w.heap.size + 1, 0, none⟩ (.int .i64 0)).setCell ⟨w.heap.size + 1, 1, none⟩ (.int .i64 40)) = w3 at g0 g1 g2 ⊢
        exact bodyPost_ret (v := .agg #[.int .i64 0, .int .i64 40]) (by simp [results, Tryd.results37, go_sem, g1, g2]) rfl ⟨rfl, g0⟩
      · have e : tenF C = toldOf (scan (fun i => if okTen C i = true then 0 else 40) 0 C.l1.length) := by unfold tenF; rw [if_neg h16, if_neg h0]
        have HE := Aside0.mk (HQ.out.symm.trans e)
        clear e
        have d2 : ((C.l1.length : Int) == 0) = false := by simpa using h0
        have H0 : Aside0 (TenI C w 0 w2) := ⟨⟨HT.out, Nat.zero_le _, fun j hj => absurd hj (by omega)⟩⟩
        go_wp2_with fail
        go_loopw [3] (fun i wr => ∃ m : Nat, i = .int .i64 (m : Int) ∧ Aside0 (TenI C w m wr)) (fun i _ => C.l1.length - (intOf i).toNat)
        case atStart => exact ⟨0, rfl, H0⟩
        case round =>
          clear H0 HT x1 z0 z1 f0 f1
          obtain ⟨m, rfl, hS⟩ := hrel
          have x1 := (cf_cell hS.out.1.e0).2.1
          rw [HA1.out] at x1
          obtain ⟨z0, z1, f0, f1⟩ := hS.out.1.r
          by_cases h1 : (m : Int) < (C.l1.length : Int)
          · have e1 : decide ((m : Int) < (C.l1.length : Int)) = true := decide_eq_true h1
            have H1 := Aside0.mk h1
            obtain ⟨ad, eA, y0, y1⟩ := at_T97 (HC.out.below hS.out.1.b).r1 (m : Int) (by omega) h1
            obtain rfl : A1 = some ad := HA1.out.symm.trans eA
            rw [Int.toNat_natCast] at y0 y1
            obtain ⟨bl, hbl⟩ : ∃ b, isLB C (rd_T97 C.l1 (m : Int)).f0 = b := ⟨_, rfl⟩
            obtain ⟨bq, hbq⟩ : ∃ b, winB (rd_T97 C.l1 (m : Int)).f1 0 256 = b := ⟨_, rfl⟩
            have HB := Aside0.mk (And.intro hbl hbq)
            clear hbl hbq
            have h00 : (0 : Int) ≤ (m : Int) := by omega
            go_upto_region 8 with fail
            cases bl with
            | false =>
              refine wp_region_held_drew (S := fun w' => Below wr.heap.size wr w') (by kernel_rfl) (pw_below_drewN (Below.refl _ _) 1) (fun hHeld => ?_)
              generalize wr.drew = wd at hHeld ⊢
              refine tk (i := 0) (v := _) 21 rfl (yields_blk (by rfl) 28 (.tmp 1) rfl (w.heap.size) _ 28 rfl _ (fun w' hW => obj_below hW hS.out.1.e0) Tryd.underlying28 rfl (by kernel_rfl)) hHeld ?_
              try simp only [putL, putN, List.set]
              refine tk (i := 1) (v := _) 22 rfl (Or.inl ⟨by rfl, fun w' hW => by have hq0 := pw_cell_below hW x1; have hq1 := pw_cell_below hW y0; have hq2 := pw_cell_below hW y1; go_simp; try (first | with_reducible rfl | rfl)⟩) hHeld ?_
              try simp only [putL, putN, List.set]
              refine tk (i := 3) (v := _) 24 rfl (Or.inl ⟨by rfl, fun w' hW => by have hq0 := pw_cell_below hW x1; have hq1 := pw_cell_below hW y0; have hq2 := pw_cell_below hW y1; go_simp; try (first | with_reducible rfl | rfl)⟩) hHeld ?_
              try simp only [putL, putN, List.set]
              refine tk (i := 2) (v := _) 23 rfl (Or.inl ⟨by rfl, fun w' hW => by have hq0 := pw_cell_below hW x1; have hq1 := pw_cell_below hW y0; have hq2 := pw_cell_below hW y1; go_simp; try (first | with_reducible rfl | rfl)⟩) hHeld ?_
              try simp only [putL, putN, List.set]
              refine tk (i := 4) (v := _) 25 rfl (Or.inl ⟨by rfl, fun w' hW => by have hq0 := pw_cell_below hW x1; have hq1 := pw_cell_below hW y0; have hq2 := pw_cell_below hW y1; go_simp; try (first | with_reducible rfl | rfl)⟩) hHeld ?_
              try simp only [putL, putN, List.set]
              refine tk (i := 5) (v := _) 26 rfl (Or.inl ⟨by rfl, fun w' hW => by have hq0 := pw_cell_below hW x1; have hq1 := pw_cell_below hW y0; have hq2 := pw_cell_below hW y1; go_simp; try (first | with_reducible rfl | rfl)⟩) hHeld ?_
              try simp only [putL, putN, List.set]
              refine tk (i := 6) (v := _) 27 rfl (Or.inl ⟨by rfl, fun w' hW => by have hq0 := pw_cell_below hW x1; have hq1 := pw_cell_below hW y0; have hq2 := pw_cell_below hW y1; go_simp; try (first | with_reducible rfl | rfl)⟩) hHeld ?_
              try simp only [putL, putN, List.set]
              have N0 := Aside0.mk hHeld
              refine wpAnyH_ready (rs := [7]) (by kernel_rfl) (by simp) ?_
              refine AllReadyH.cons rfl (fun K hK => ?_) AllReadyH.nil
              go_simp
              go_wp2_with (first | (go_at_call 67; refine (lab_calls C _ _).mono ?_; rintro e wa ⟨rfl, hb⟩; rw [HB.out.1]; have N1 := Aside0.mk (below_step N0.out hb); clear hb))
              clear hHeld
              refine hK.out _ _ N1.out (fun hHeld => ?_)
              clear hK K
              try simp only [putL, putN, List.set]
              refine tk (i := 8) (v := _) 29 rfl (Or.inl ⟨by rfl, fun w' hW => by have hq0 := pw_cell_below hW x1; have hq1 := pw_cell_below hW y0; have hq2 := pw_cell_below hW y1; go_simp; try (first | with_reducible rfl | rfl)⟩) hHeld ?_
              try simp only [putL, putN, List.set]
              refine tk (i := 9) (v := _) 30 rfl (Or.inl ⟨by rfl, fun w' hW => by have hq0 := pw_cell_below hW x1; have hq1 := pw_cell_below hW y0; have hq2 := pw_cell_below hW y1; go_simp; try (first | with_reducible rfl | rfl)⟩) hHeld ?_
              try simp only [putL, putN, List.set]
              refine tk (i := 10) (v := undef) 31 rfl (Or.inr ⟨by rfl, rfl⟩) hHeld ?_
              try simp only [putL, putN, List.set]
              refine tk (i := 12) (v := undef) 33 rfl (Or.inr ⟨by rfl, rfl⟩) hHeld ?_
              try simp only [putL, putN, List.set]
              refine tk (i := 11) (v := undef) 32 rfl (Or.inr ⟨by rfl, rfl⟩) hHeld ?_
              try simp only [putL, putN, List.set]
              refine tk (i := 13) (v := undef) 34 rfl (Or.inr ⟨by rfl, rfl⟩) hHeld ?_
              try simp only [putL, putN, List.set]
              refine tk (i := 14) (v := undef) 35 rfl (Or.inr ⟨by rfl, rfl⟩) hHeld ?_
              try simp only [putL, putN, List.set]
              refine tk (i := 15) (v := undef) 36 rfl (Or.inr ⟨by rfl, rfl⟩) hHeld ?_
              try simp only [putL, putN, List.set]
              refine tk (i := 16) (v := undef) 37 rfl (Or.inr ⟨by rfl, rfl⟩) hHeld ?_
              try simp only [putL, putN, List.set]
              refine tk (i := 17) (v := undef) 38 rfl (Or.inr ⟨by rfl, rfl⟩) hHeld ?_
              try simp only [putL, putN, List.set]
              refine tk (i := 18) (v := _) 39 rfl (Or.inl ⟨by rfl, fun w' hW => by have hq0 := pw_cell_below hW x1; have hq1 := pw_cell_below hW y0; have hq2 := pw_cell_below hW y1; go_simp; try (first | with_reducible rfl | rfl)⟩) hHeld ?_
              try simp only [putL, putN, List.set]
              refine wpAnyH_done (by kernel_rfl) ?_ _
              clear hHeld
              have HT2 := Aside0.mk (hS.out.1.below N1.out)
              obtain ⟨u0, u1, s0, s1⟩ := HT2.out.r
              go_wp2_with fail
              have hbad : ¬ okTen C m = true := by unfold okTen; rw [HB.out.1]; simp
              have eq := HE.out.trans (told_hit (i := m) (by rw [if_neg hbad]; decide) (by have := H1.out; omega) (fun j hj => if_pos (hS.out.2.2 j hj)))
              rw [if_neg hbad] at eq
              simp only [Prod.mk.injEq] at eq
              obtain ⟨rfl, rfl⟩ := eq
              obtain ⟨g0, g1, g2⟩ := HT2.out.fin (m : Int) 40
              generalize ((wa.setCell ⟨w.heap.size + 1, 0, none⟩ (.int .i64 (m : Int))).setCell ⟨w.heap.size + 1, 1, none⟩ (.int .i64 40)) = w3 at g0 g1 g2 ⊢
              exact bodyPost_ret (v := .agg #[.int .i64 (m : Int), .int .i64 40]) (by simp [results, Tryd.results37, go_sem, g1, g2]) rfl ⟨rfl, g0⟩
            | true =>
              refine wp_region_held_drew (S := fun w' => Below wr.heap.size wr w') (by kernel_rfl) (pw_below_drewN (Below.refl _ _) 1) (fun hHeld => ?_)
              generalize wr.drew = wd at hHeld ⊢
              refine tk (i := 0) (v := _) 21 rfl (yields_blk (by rfl) 28 (.tmp 1) rfl (w.heap.size) _ 28 rfl _ (fun w' hW => obj_below hW hS.out.1.e0) Tryd.underlying28 rfl (by kernel_rfl)) hHeld ?_
              try simp only [putL, putN, List.set]
              refine tk (i := 1) (v := _) 22 rfl (Or.inl ⟨by rfl, fun w' hW => by have hq0 := pw_cell_below hW x1; have hq1 := pw_cell_below hW y0; have hq2 := pw_cell_below hW y1; go_simp; try (first | with_reducible rfl | rfl)⟩) hHeld ?_
              try simp only [putL, putN, List.set]
              refine tk (i := 3) (v := _) 24 rfl (Or.inl ⟨by rfl, fun w' hW => by have hq0 := pw_cell_below hW x1; have hq1 := pw_cell_below hW y0; have hq2 := pw_cell_below hW y1; go_simp; try (first | with_reducible rfl | rfl)⟩) hHeld ?_
              try simp only [putL, putN, List.set]
              refine tk (i := 2) (v := _) 23 rfl (Or.inl ⟨by rfl, fun w' hW => by have hq0 := pw_cell_below hW x1; have hq1 := pw_cell_below hW y0; have hq2 := pw_cell_below hW y1; go_simp; try (first | with_reducible rfl | rfl)⟩) hHeld ?_
              try simp only [putL, putN, List.set]
              refine tk (i := 4) (v := _) 25 rfl (Or.inl ⟨by rfl, fun w' hW => by have hq0 := pw_cell_below hW x1; have hq1 := pw_cell_below hW y0; have hq2 := pw_cell_below hW y1; go_simp; try (first | with_reducible rfl | rfl)⟩) hHeld ?_
              try simp only [putL, putN, List.set]
              refine tk (i := 5) (v := _) 26 rfl (Or.inl ⟨by rfl, fun w' hW => by have hq0 := pw_cell_below hW x1; have hq1 := pw_cell_below hW y0; have hq2 := pw_cell_below hW y1; go_simp; try (first | with_reducible rfl | rfl)⟩) hHeld ?_
              try simp only [putL, putN, List.set]
              refine tk (i := 6) (v := _) 27 rfl (Or.inl ⟨by rfl, fun w' hW => by have hq0 := pw_cell_below hW x1; have hq1 := pw_cell_below hW y0; have hq2 := pw_cell_below hW y1; go_simp; try (first | with_reducible rfl | rfl)⟩) hHeld ?_
              try simp only [putL, putN, List.set]
              have N0 := Aside0.mk hHeld
              refine wpAnyH_ready (rs := [7]) (by kernel_rfl) (by simp) ?_
              refine AllReadyH.cons rfl (fun K hK => ?_) AllReadyH.nil
              go_simp
              go_wp2_with (first | (go_at_call 67; refine (lab_calls C _ _).mono ?_; rintro e wa ⟨rfl, hb⟩; rw [HB.out.1]; have N1 := Aside0.mk (below_step N0.out hb); clear hb))
              clear hHeld
              refine hK.out _ _ N1.out (fun hHeld => ?_)
              clear hK K
              try simp only [putL, putN, List.set]
              refine tk (i := 8) (v := _) 29 rfl (Or.inl ⟨by rfl, fun w' hW => by have hq0 := pw_cell_below hW x1; have hq1 := pw_cell_below hW y0; have hq2 := pw_cell_below hW y1; go_simp; try (first | with_reducible rfl | rfl)⟩) hHeld ?_
              try simp only [putL, putN, List.set]
              refine tk (i := 9) (v := _) 30 rfl (Or.inl ⟨by rfl, fun w' hW => by have hq0 := pw_cell_below hW x1; have hq1 := pw_cell_below hW y0; have hq2 := pw_cell_below hW y1; go_simp; try (first | with_reducible rfl | rfl)⟩) hHeld ?_
              try simp only [putL, putN, List.set]
              refine tk (i := 10) (v := _) 31 rfl (Or.inl ⟨by rfl, fun w' hW => by have hq0 := pw_cell_below hW x1; have hq1 := pw_cell_below hW y0; have hq2 := pw_cell_below hW y1; go_simp; try (first | with_reducible rfl | rfl)⟩) hHeld ?_
              try simp only [putL, putN, List.set]
              refine tk (i := 12) (v := _) 33 rfl (Or.inl ⟨by rfl, fun w' hW => by have hq0 := pw_cell_below hW x1; have hq1 := pw_cell_below hW y0; have hq2 := pw_cell_below hW y1; go_simp; try (first | with_reducible rfl | rfl)⟩) hHeld ?_
              try simp only [putL, putN, List.set]
              refine tk (i := 11) (v := _) 32 rfl (Or.inl ⟨by rfl, fun w' hW => by have hq0 := pw_cell_below hW x1; have hq1 := pw_cell_below hW y0; have hq2 := pw_cell_below hW y1; go_simp; try (first | with_reducible rfl | rfl)⟩) hHeld ?_
              try simp only [putL, putN, List.set]
              refine tk (i := 13) (v := _) 34 rfl (Or.inl ⟨by rfl, fun w' hW => by have hq0 := pw_cell_below hW x1; have hq1 := pw_cell_below hW y0; have hq2 := pw_cell_below hW y1; go_simp; try (first | with_reducible rfl | rfl)⟩) hHeld ?_
              try simp only [putL, putN, List.set]
              refine tk (i := 14) (v := _) 35 rfl (Or.inl ⟨by rfl, fun w' hW => by have hq0 := pw_cell_below hW x1; have hq1 := pw_cell_below hW y0; have hq2 := pw_cell_below hW y1; go_simp; try (first | with_reducible rfl | rfl)⟩) hHeld ?_
              try simp only [putL, putN, List.set]
              refine tk (i := 15) (v := _) 36 rfl (Or.inl ⟨by rfl, fun w' hW => by have hq0 := pw_cell_below hW x1; have hq1 := pw_cell_below hW y0; have hq2 := pw_cell_below hW y1; go_simp; try (first | with_reducible rfl | rfl)⟩) hHeld ?_
              try simp only [putL, putN, List.set]
              refine wpAnyH_ready (rs := [16]) (by kernel_rfl) (by simp) ?_
              refine AllReadyH.cons rfl (fun K hK => ?_) AllReadyH.nil
              go_simp
              go_wp2_with (first | (go_at_call 68; refine (win_calls _ _ _ _).mono ?_; rintro e wb ⟨rfl, rfl⟩; rw [HB.out.2]))
              clear hHeld
              refine hK.out _ _ N1.out (fun hHeld => ?_)
              clear hK K
              try simp only [putL, putN, List.set]
              refine tk (i := 17) (v := _) 38 rfl (Or.inl ⟨by rfl, fun w' hW => by have hq0 := pw_cell_below hW x1; have hq1 := pw_cell_below hW y0; have hq2 := pw_cell_below hW y1; go_simp; try (first | with_reducible rfl | rfl)⟩) hHeld ?_
              try simp only [putL, putN, List.set]
              refine tk (i := 18) (v := _) 39 rfl (Or.inl ⟨by rfl, fun w' hW => by have hq0 := pw_cell_below hW x1; have hq1 := pw_cell_below hW y0; have hq2 := pw_cell_below hW y1; go_simp; try (first | with_reducible rfl | rfl)⟩) hHeld ?_
              try simp only [putL, putN, List.set]
              refine wpAnyH_done (by kernel_rfl) ?_ _
              clear hHeld
              cases bq with
              | false =>
                have HT2 := Aside0.mk (hS.out.1.below N1.out)
                obtain ⟨u0, u1, s0, s1⟩ := HT2.out.r
                go_wp2_with fail
                have hbad : ¬ okTen C m = true := by unfold okTen; rw [HB.out.1, HB.out.2]; decide
                have eq := HE.out.trans (told_hit (i := m) (by rw [if_neg hbad]; decide) (by have := H1.out; omega) (fun j hj => if_pos (hS.out.2.2 j hj)))
                rw [if_neg hbad] at eq
                simp only [Prod.mk.injEq] at eq
                obtain ⟨rfl, rfl⟩ := eq
                obtain ⟨g0, g1, g2⟩ := HT2.out.fin (m : Int) 40
                generalize ((wa.setCell ⟨w.heap.size + 1, 0, none⟩ (.int .i64 (m : Int))).setCell ⟨w.heap.size + 1, 1, none⟩ (.int .i64 40)) = w3 at g0 g1 g2 ⊢
                exact bodyPost_ret (v := .agg #[.int .i64 (m : Int), .int .i64 40]) (by simp [results, Tryd.results37, go_sem, g1, g2]) rfl ⟨rfl, g0⟩
              | true =>
                go_wp2_with fail
                have HT2 := Aside0.mk (hS.out.1.below N1.out)
                go_roundw
                case rel => exact ⟨m + 1, by go_num, ⟨HT2.out, by have := H1.out; omega, fun j hj => by
                  by_cases e : j = m
                  · subst e; unfold okTen; rw [HB.out.1, HB.out.2]; rfl
                  · exact hS.out.2.2 j (by omega)⟩⟩
                case measure => simp [intOf]; have := H1.out; omega
          · skip
            have e1 : decide ((m : Int) < (C.l1.length : Int)) = false := decide_eq_false h1
            have H1 := Aside0.mk h1
            go_wp2_with fail
            have eq := HE.out.trans (told_none (fun j hj => if_pos (hS.out.2.2 j (by have := H1.out; omega))))
            simp only [Prod.mk.injEq] at eq
            obtain ⟨rfl, rfl⟩ := eq
            obtain ⟨g0, g1, g2⟩ := hS.out.1.fin 0 0
            generalize ((wr.setCell ⟨w.heap.size + 1, 0, none⟩ (.int .i64 0)).setCell ⟨w.heap.size + 1, 1, none⟩ (.int .i64 0)) = w3 at g0 g1 g2 ⊢
            exact bodyPost_ret (v := .agg #[.int .i64 0, .int .i64 0]) (by simp [results, Tryd.results37, go_sem, g1, g2]) rfl ⟨rfl, g0⟩
  exact key _ rfl
end Go.Proofs.YtoliipbmcekciaaDoor.QDd
namespace Go.Proofs.YtoliipbmcekciaaDoor.QDd
open Go.RowKit Go.Proofs.YtoliipbmcekciaaDoorW.PrintWords Go.Proofs.YtoliipbmcekciaaDoorW.PrintLast Go.Proofs.YtoliipbmcekciaaDoorW.PrintMore
open Go.Proofs.YtoliipbmcekciaaDoor.QDc (tk putL putN obj_below take_at yields_blk load_blk load_any store_blk blk_setCells setAll far_setCells below_setCells)
set_option linter.unusedVariables false
set_option linter.unusedSimpArgs false
def sumTo (f : Nat → Int) : Nat → Int
  | 0 => 0
  | n + 1 => sumTo f n + f n
theorem sumTo_le {f : Nat → Int} {b : Int} (h : ∀ j, 0 ≤ f j ∧ f j ≤ b) : ∀ n : Nat, 0 ≤ sumTo f n ∧ sumTo f n ≤ b * n
  | 0 => by unfold sumTo; omega
  | n + 1 => by
    have h1 := sumTo_le h n
    have h2 := h n
    unfold sumTo
    have : b * ((n + 1 : Nat) : Int) = b * n + b := by push_cast; rw [Int.mul_add, Int.mul_one]
    omega
def crOne (x : S103) (t : Int) : Int := if x.f0 = t ∧ winB x.f1 1 64 = true then x.f1 else 0
theorem crOne_le (x : S103) (t : Int) : 0 ≤ crOne x t ∧ crOne x t ≤ 64 := by
  unfold crOne
  split
  · rename_i h
    have := h.2
    unfold winB at this
    have := of_decide_eq_true this
    omega
  · omega
def crLane (C : Cf) (t : Int) (i k : Nat) : Int := crOne (rd_T103 (rd_T87 C.l2 (i : Int)).f1 (k : Int)) t
def crChan (C : Cf) (t : Int) (i : Nat) : Int := sumTo (crLane C t i) (rd_T87 C.l2 (i : Int)).f1.length
def credF (C : Cf) (t : Int) : Int := sumTo (crChan C t) C.l2.length
theorem Small.at {l : List S87} (h : Small l) (i : Nat) : (rd_T87 l (i : Int)).f1.length ≤ 1000 ∧ (rd_T87 l (i : Int)).f2.length ≤ 1000 := by
  unfold rd_T87
  rw [Int.toNat_natCast]
  by_cases hi : i < l.length
  · rw [List.getD_eq_getElem?_getD, List.getElem?_eq_getElem hi]; exact h.2 _ (List.getElem_mem hi)
  · rw [List.getD_eq_getElem?_getD, List.getElem?_eq_none (by omega)]; exact ⟨by decide, by decide⟩
theorem crChan_le (C : Cf) (hs : Small C.l2) (t : Int) (i : Nat) : 0 ≤ crChan C t i ∧ crChan C t i ≤ 64000 := by
  have h1 := sumTo_le (fun k => crOne_le (rd_T103 (rd_T87 C.l2 (i : Int)).f1 (k : Int)) t) (rd_T87 C.l2 (i : Int)).f1.length
  have h2 := (hs.at i).1
  unfold crChan
  change 0 ≤ sumTo (crLane C t i) _ ∧ sumTo (crLane C t i) _ ≤ _ at h1
  omega
/-- A box of the settings alone. -/
structure OB (C : Cf) (w w2 : World) : Prop where
  b : Below w.heap.size w w2
  e0 : w2.heap[w.heap.size]? = some (.cells C.v 28 (0, 0))
theorem OB.start (C : Cf) (w : World) : OB C w (w.alloc (.cells C.v 28)) := ⟨(Below.refl _ w).alloc (Nat.le_refl _) _, World.alloc_heap_new w _⟩
theorem OB.below {C : Cf} {w w2 w3 : World} (h : OB C w w2) (hb : Below w2.heap.size w2 w3) : OB C w w3 := ⟨h.b.trans (hb.mono h.b.size), obj_below hb h.e0⟩
def CrI (C : Cf) (t : Int) (w : World) (m : Nat) (n : Int) (wr : World) : Prop := OB C w wr ∧ m ≤ C.l2.length ∧ n = sumTo (crChan C t) m
def CrJ (C : Cf) (t : Int) (w : World) (m k : Nat) (n : Int) (wr : World) : Prop := OB C w wr ∧ k ≤ (rd_T87 C.l2 (m : Int)).f1.length ∧ n = sumTo (crChan C t) m + sumTo (crLane C t m) k
set_option maxRecDepth 100000 in
set_option maxHeartbeats 2000000 in
theorem Credits_calls (C : Cf) (t : Int) (w : World) (hC : C.At w) (hL : C.Lim) : Calls Tryd.prog 71 #[.agg C.v, .int .i64 t] w fun e w' => e = .returned (.int .i64 (credF C t)) ∧ Below w.heap.size w w' := by
  have HC := Aside0.mk hC
  have HL := Aside0.mk hL
  clear hC hL
  go_enter Tryd.func71, Tryd.ntmps71
  go_upto_region 1 with fail
  have HT := Aside0.mk (OB.start C w)
  generalize w.alloc (.cells C.v 28) = w2 at HT ⊢
  obtain ⟨A2, hA2⟩ : ∃ A, C.A2 = A := ⟨_, rfl⟩
  have HA2 := Aside0.mk hA2
  clear hA2
  have H0 : Aside0 (CrI C t w 0 0 w2) := ⟨⟨HT.out, Nat.zero_le _, rfl⟩⟩
  clear HT
  go_wp2_with fail
  go_loopw [5, 6] (fun n i wr => ∃ (m : Nat) (s : Int), i = .int .i64 (m : Int) ∧ n = .int .i64 s ∧ Aside0 (CrI C t w m s wr)) (fun _ i _ => C.l2.length - (intOf i).toNat)
  case atStart => exact ⟨0, 0, rfl, rfl, H0⟩
  case round =>
    clear H0
    obtain ⟨m, s, rfl, rfl, hS⟩ := hrel
    have x2 := (cf_cell hS.out.1.e0).2.2.1
    rw [HA2.out] at x2
    have hb2 : C.l2.length ≤ 1000 := HL.out.l2.1
    by_cases h1 : (m : Int) < (C.l2.length : Int)
    · have e1 : decide ((m : Int) < (C.l2.length : Int)) = true := decide_eq_true h1
      have H1 := Aside0.mk h1
      have h00 : (0 : Int) ≤ (m : Int) := by omega
      obtain ⟨ad, B1, b1, B2, b2, eA, y0, y1, y2, q1, q2, q3, q4⟩ := at_T87 (HC.out.below hS.out.1.b).r2 (m : Int) h00 h1
      obtain rfl : A2 = some ad := HA2.out.symm.trans eA
      rw [Int.toNat_natCast] at y0 y1 y2
      have HR := Aside0.mk q2
      have HY := Aside0.mk y1
      clear q1 q2 q3 q4 eA y0 y2
      have J0 : Aside0 (CrJ C t w m 0 s wr) := ⟨⟨hS.out.1, Nat.zero_le _, by rw [hS.out.2.2]; unfold sumTo; omega⟩⟩
      go_upto_region 6 with fail
      go_loopw [5, 7] (fun n k wj => ∃ (j : Nat) (s : Int), k = .int .i64 (j : Int) ∧ n = .int .i64 s ∧ Aside0 (CrJ C t w m j s wj ∧ Below wr.heap.size wr wj)) (fun _ k _ => (rd_T87 C.l2 (m : Int)).f1.length - (intOf k).toNat)
      case atStart => exact ⟨0, s, rfl, rfl, ⟨⟨J0.out, Below.refl _ _⟩⟩⟩
      case round =>
        clear J0 x2 y1
        obtain ⟨k, s, rfl, rfl, hJ⟩ := hrel
        have x2 := (cf_cell hJ.out.1.1.e0).2.2.1
        rw [HA2.out] at x2
        have y1 := pw_cell_below hJ.out.2 HY.out
        have hb1 : (rd_T87 C.l2 (m : Int)).f1.length ≤ 1000 := (HL.out.l2.at m).1
        by_cases h2 : (k : Int) < ((rd_T87 C.l2 (m : Int)).f1.length : Int)
        · have e2 : decide ((k : Int) < ((rd_T87 C.l2 (m : Int)).f1.length : Int)) = true := decide_eq_true h2
          have H2 := Aside0.mk h2
          have h01 : (0 : Int) ≤ (k : Int) := by omega
          obtain ⟨ad2, eB, v0, v1, v2⟩ := at_T103 (Kd.C_below HR.out hJ.out.2) (k : Int) h01 h2
          subst eB
          rw [Int.toNat_natCast] at v0 v1 v2
          obtain ⟨lx, hlx⟩ : ∃ x, rd_T103 (rd_T87 C.l2 (m : Int)).f1 (k : Int) = x := ⟨_, rfl⟩
          have HLX := Aside0.mk hlx
          rw [hlx] at v0 v1 v2
          clear hlx
          go_upto_region 9 with fail
          have BK : Aside0 (Below wr.heap.size wr (wr.alloc (.cells #[.int .i64 lx.f0, .int .i64 lx.f1, .bool lx.f2] 103))) := ⟨(Below.refl _ _).alloc (Nat.le_refl _) _⟩
          have EK : Aside0 ((wr.alloc (.cells #[.int .i64 lx.f0, .int .i64 lx.f1, .bool lx.f2] 103)).heap[wr.heap.size]? = some (.cells #[.int .i64 lx.f0, .int .i64 lx.f1, .bool lx.f2] 103 (0, 0))) := ⟨World.alloc_heap_new _ _⟩
          generalize wr.alloc (.cells #[.int .i64 lx.f0, .int .i64 lx.f1, .bool lx.f2] 103) = wk at BK EK ⊢
          have t0 : wk.cell? ⟨wr.heap.size, 0, none⟩ = some (.int .i64 lx.f0) := by simp [World.cell?, EK.out]
          have t1 : wk.cell? ⟨wr.heap.size, 1, none⟩ = some (.int .i64 lx.f1) := by simp [World.cell?, EK.out]
          have hsb : 0 ≤ s ∧ s ≤ 64064000 := by
            have a1 := sumTo_le (crChan_le C HL.out.l2 t) m
            have a2 := sumTo_le (fun k => crOne_le (rd_T103 (rd_T87 C.l2 (m : Int)).f1 (k : Int)) t) k
            change 0 ≤ sumTo (crLane C t m) k ∧ sumTo (crLane C t m) k ≤ _ at a2
            have a3 := hJ.out.1.2.2
            have a4 := H1.out
            have a5 := HL.out.l2.1
            have a6 := H2.out
            have a7 := (HL.out.l2.at m).1
            omega
          obtain ⟨hs0, hs1⟩ := hsb
          have HSB := Aside0.mk (And.intro hs0 hs1)
          obtain ⟨bw, hbw⟩ : ∃ b, winB lx.f1 1 64 = b := ⟨_, rfl⟩
          have HBW := Aside0.mk hbw
          have step : ∀ d : Int, crOne lx t = d → s + d = sumTo (crChan C t) m + sumTo (crLane C t m) (k + 1) := by
            intro d hd
            show _ = _ + (sumTo (crLane C t m) k + crLane C t m k)
            unfold crLane
            rw [HLX.out, hd, hJ.out.1.2.2]
            unfold crLane
            omega
          have STEP := Aside0.mk step
          clear step
          by_cases h3 : lx.f0 = t
          · have d3 : (lx.f0 == t) = true := by simpa using h3
            have d3' : decide (lx.f0 = t) = true := decide_eq_true h3
            have H3 := Aside0.mk h3
            clear h3
            cases bw with
            | true =>
              have hf : 1 ≤ lx.f1 ∧ lx.f1 ≤ 64 := by have := HBW.out; unfold winB at this; exact of_decide_eq_true this
              obtain ⟨hf0, hf1⟩ := hf
              clear hbw
              go_wp2_with (first | (go_at_call 68; refine (win_calls _ _ _ _).mono ?_; rintro e wb ⟨rfl, rfl⟩; rw [HBW.out]))
              go_roundw
              case rel => exact ⟨k + 1, s + lx.f1, by go_num, rfl, ⟨⟨hJ.out.1.1.below BK.out, by have := H2.out; omega, STEP.out _ (if_pos ⟨H3.out, HBW.out⟩)⟩, hJ.out.2.trans (BK.out.mono hJ.out.2.size)⟩⟩
              case measure => simp [intOf]; have := H2.out; omega
            | false =>
              clear hbw
              go_wp2_with (first | (go_at_call 68; refine (win_calls _ _ _ _).mono ?_; rintro e wb ⟨rfl, rfl⟩; rw [HBW.out]))
              go_roundw
              case rel => exact ⟨k + 1, s, by go_num, rfl, ⟨⟨hJ.out.1.1.below BK.out, by have := H2.out; omega, (Int.add_zero s).symm.trans (STEP.out 0 (if_neg (fun h => by have := h.2; rw [HBW.out] at this; exact absurd this (by decide))))⟩, hJ.out.2.trans (BK.out.mono hJ.out.2.size)⟩⟩
              case measure => simp [intOf]; have := H2.out; omega
          · have d3 : (lx.f0 == t) = false := by simpa using h3
            have d3' : decide (lx.f0 = t) = false := decide_eq_false h3
            have H3 := Aside0.mk h3
            clear hbw
            go_wp2_with fail
            go_roundw
            case rel => exact ⟨k + 1, s, by go_num, rfl, ⟨⟨hJ.out.1.1.below BK.out, by have := H2.out; omega, (Int.add_zero s).symm.trans (STEP.out 0 (if_neg (fun h => H3.out h.1)))⟩, hJ.out.2.trans (BK.out.mono hJ.out.2.size)⟩⟩
            case measure => simp [intOf]; have := H2.out; omega
        · have e2 : decide ((k : Int) < ((rd_T87 C.l2 (m : Int)).f1.length : Int)) = false := decide_eq_false h2
          have H2 := Aside0.mk h2
          have hk : k = (rd_T87 C.l2 (m : Int)).f1.length := by have := hJ.out.1.2.1; omega
          have hss : s = sumTo (crChan C t) (m + 1) := by
            rw [hJ.out.1.2.2, hk]; rfl
          have HSS := Aside0.mk hss
          clear hk hss
          go_wp2_with fail
          go_roundw
          case rel => exact ⟨m + 1, s, by go_num, rfl, ⟨hJ.out.1.1, by have := H1.out; omega, HSS.out⟩⟩
          case measure => simp [intOf]; have := H1.out; omega
    · have e1 : decide ((m : Int) < (C.l2.length : Int)) = false := decide_eq_false h1
      have H1 := Aside0.mk h1
      have hss : s = credF C t := by
        have hm : m = C.l2.length := by have := hS.out.2.1; omega
        rw [hS.out.2.2, hm]; rfl
      have HSS := Aside0.mk hss
      clear hss
      go_wp2_with fail
      go_ret
      exact ⟨by rw [← HSS.out]; rfl, hS.out.1.b⟩
end Go.Proofs.YtoliipbmcekciaaDoor.QDd
namespace Go.Proofs.YtoliipbmcekciaaDoor.QDd
open Go.RowKit Go.Proofs.YtoliipbmcekciaaDoorW.PrintWords Go.Proofs.YtoliipbmcekciaaDoorW.PrintLast Go.Proofs.YtoliipbmcekciaaDoorW.PrintMore
open Go.Proofs.YtoliipbmcekciaaDoor.QDc (tk putL putN obj_below take_at yields_blk load_blk load_any store_blk blk_setCells setAll far_setCells below_setCells)
set_option linter.unusedVariables false
set_option linter.unusedSimpArgs false
def okQuo (C : Cf) (i : Nat) : Bool := decide (credF C (i : Int) ≤ (rd_T97 C.l1 (i : Int)).f1)
def quoF (C : Cf) : Int × Int := toldOf (scan (fun i => if okQuo C i = true then 0 else 45) 0 C.l1.length)
def QuoI (C : Cf) (w : World) (m : Nat) (wr : World) : Prop := TB C w wr ∧ m ≤ C.l1.length ∧ ∀ j, j < m → okQuo C j = true
set_option maxRecDepth 100000 in
set_option maxHeartbeats 2000000 in
theorem quotas_calls (C : Cf) (w : World) (hC : C.At w) (hL : C.Lim) : Calls Tryd.prog 39 #[.agg C.v] w fun e w' => e = .returned (.agg #[.int .i64 (quoF C).1, .int .i64 (quoF C).2]) ∧ Below w.heap.size w w' := by
  have HC := Aside0.mk hC
  have HL := Aside0.mk hL
  clear hC hL
  have key : ∀ q : Int × Int, quoF C = q → Calls Tryd.prog 39 #[.agg C.v] w fun e w' => e = .returned (.agg #[.int .i64 q.1, .int .i64 q.2]) ∧ Below w.heap.size w w' := by
    rintro ⟨qn, qe⟩ hq
    have HQ := Aside0.mk hq
    clear hq
    go_enter Tryd.func39, Tryd.ntmps39
    go_upto_region 1 with fail
    have HT := Aside0.mk (TB.start C w)
    generalize ((w.alloc (.cells C.v 28)).alloc (.cells #[.int .i64 0, .int .i64 0] 90)) = w2 at HT ⊢
    obtain ⟨z0, z1, f0, f1⟩ := HT.out.r
    obtain ⟨A1, hA1⟩ : ∃ A, C.A1 = A := ⟨_, rfl⟩
    have HA1 := Aside0.mk hA1
    clear hA1
    have x1 := (cf_cell HT.out.e0).2.1
    rw [HA1.out] at x1
    have e : quoF C = toldOf (scan (fun i => if okQuo C i = true then 0 else 45) 0 C.l1.length) := by rfl
    have HE := Aside0.mk (HQ.out.symm.trans e)
    clear e
    have H0 : Aside0 (QuoI C w 0 w2) := ⟨⟨HT.out, Nat.zero_le _, fun j hj => absurd hj (by omega)⟩⟩
    go_wp2_with fail
    go_loopw [3] (fun i wr => ∃ m : Nat, i = .int .i64 (m : Int) ∧ Aside0 (QuoI C w m wr)) (fun i _ => C.l1.length - (intOf i).toNat)
    case atStart => exact ⟨0, rfl, H0⟩
    case round =>
      clear H0 HT z0 z1 f0 f1 x1
      obtain ⟨m, rfl, hS⟩ := hrel
      have x1 := (cf_cell hS.out.1.e0).2.1
      rw [HA1.out] at x1
      obtain ⟨z0, z1, f0, f1⟩ := hS.out.1.r
      have hlim : C.l1.length ≤ 1000 := HL.out.l1
      by_cases h1 : (m : Int) < (C.l1.length : Int)
      · have e1 : decide ((m : Int) < (C.l1.length : Int)) = true := decide_eq_true h1
        have H1 := Aside0.mk h1
        have h00 : (0 : Int) ≤ (m : Int) := by omega
        obtain ⟨ad, eA, y0, y1⟩ := at_T97 (HC.out.below hS.out.1.b).r1 (m : Int) h00 h1
        obtain rfl : A1 = some ad := HA1.out.symm.trans eA
        rw [Int.toNat_natCast] at y0 y1
        obtain ⟨cr, hcr⟩ : ∃ x, credF C (m : Int) = x := ⟨_, rfl⟩
        obtain ⟨qt, hqt⟩ : ∃ x, (rd_T97 C.l1 (m : Int)).f1 = x := ⟨_, rfl⟩
        have HCR := Aside0.mk hcr
        have HQT := Aside0.mk hqt
        rw [hqt] at y1
        clear hcr hqt
        go_upto_region 4 with fail
        by_cases h3 : cr ≤ qt
        · have d3 : decide (qt < cr) = false := decide_eq_false (by omega)
          have d3' : decide (cr > qt) = false := d3
          have H3 := Aside0.mk h3
          clear h3
          refine wp_region_held_drew (S := fun w' => Below wr.heap.size wr w') (by kernel_rfl) (pw_below_drewN (Below.refl _ _) 1) (fun hHeld => ?_)
          generalize wr.drew = wd at hHeld ⊢
          refine tk (i := 0) (v := _) 11 rfl (yields_blk (by rfl) 28 (.tmp 1) rfl (w.heap.size) _ 28 rfl _ (fun w' hW => obj_below hW hS.out.1.e0) Tryd.underlying28 rfl (by kernel_rfl)) hHeld ?_
          try simp only [putL, putN, List.set]
          refine tk (i := 1) (v := _) 12 rfl (Or.inl ⟨by rfl, fun w' hW => by have hq0 := pw_cell_below hW x1; have hq1 := pw_cell_below hW y0; have hq2 := pw_cell_below hW y1; go_simp; try (first | with_reducible rfl | rfl)⟩) hHeld ?_
          try simp only [putL, putN, List.set]
          refine tk (i := 3) (v := _) 14 rfl (Or.inl ⟨by rfl, fun w' hW => by have hq0 := pw_cell_below hW x1; have hq1 := pw_cell_below hW y0; have hq2 := pw_cell_below hW y1; go_simp; try (first | with_reducible rfl | rfl)⟩) hHeld ?_
          try simp only [putL, putN, List.set]
          refine tk (i := 5) (v := _) 16 rfl (Or.inl ⟨by rfl, fun w' hW => by have hq0 := pw_cell_below hW x1; have hq1 := pw_cell_below hW y0; have hq2 := pw_cell_below hW y1; go_simp; try (first | with_reducible rfl | rfl)⟩) hHeld ?_
          try simp only [putL, putN, List.set]
          refine tk (i := 4) (v := _) 15 rfl (Or.inl ⟨by rfl, fun w' hW => by have hq0 := pw_cell_below hW x1; have hq1 := pw_cell_below hW y0; have hq2 := pw_cell_below hW y1; go_simp; try (first | with_reducible rfl | rfl)⟩) hHeld ?_
          try simp only [putL, putN, List.set]
          refine tk (i := 6) (v := _) 17 rfl (Or.inl ⟨by rfl, fun w' hW => by have hq0 := pw_cell_below hW x1; have hq1 := pw_cell_below hW y0; have hq2 := pw_cell_below hW y1; go_simp; try (first | with_reducible rfl | rfl)⟩) hHeld ?_
          try simp only [putL, putN, List.set]
          refine tk (i := 7) (v := _) 18 rfl (Or.inl ⟨by rfl, fun w' hW => by have hq0 := pw_cell_below hW x1; have hq1 := pw_cell_below hW y0; have hq2 := pw_cell_below hW y1; go_simp; try (first | with_reducible rfl | rfl)⟩) hHeld ?_
          try simp only [putL, putN, List.set]
          refine tk (i := 8) (v := _) 19 rfl (Or.inl ⟨by rfl, fun w' hW => by have hq0 := pw_cell_below hW x1; have hq1 := pw_cell_below hW y0; have hq2 := pw_cell_below hW y1; go_simp; try (first | with_reducible rfl | rfl)⟩) hHeld ?_
          try simp only [putL, putN, List.set]
          have N0 := Aside0.mk hHeld
          refine wpAnyH_ready (rs := [2]) (by kernel_rfl) (by simp) ?_
          refine AllReadyH.cons rfl (fun K hK => ?_) AllReadyH.nil
          go_simp
          go_wp2_with (first | (go_at_call 71; refine (Credits_calls C (m : Int) _ (HC.out.below (hS.out.1.b.trans (N0.out.mono hS.out.1.b.size))) HL.out).mono ?_; rintro e wa ⟨rfl, hb⟩; rw [HCR.out]; have N1 := Aside0.mk (below_step N0.out hb); clear hb))
          clear hHeld
          refine hK.out _ _ N1.out (fun hHeld => ?_)
          clear hK K
          try simp only [putL, putN, List.set]
          refine tk (i := 9) (v := _) 20 rfl (Or.inl ⟨by rfl, fun w' hW => by have hq0 := pw_cell_below hW x1; have hq1 := pw_cell_below hW y0; have hq2 := pw_cell_below hW y1; go_simp; try (first | with_reducible rfl | rfl)⟩) hHeld ?_
          try simp only [putL, putN, List.set]
          refine wpAnyH_done (by kernel_rfl) ?_ _
          clear hHeld
          go_wp2_with fail
          have HT2 := Aside0.mk (hS.out.1.below N1.out)
          go_roundw
          case rel => exact ⟨m + 1, by go_num, ⟨HT2.out, by have := H1.out; omega, fun j hj => by
            by_cases e : j = m
            · subst e; unfold okQuo; rw [HCR.out, HQT.out]; exact decide_eq_true H3.out
            · exact hS.out.2.2 j (by omega)⟩⟩
          case measure => simp [intOf]; have := H1.out; omega
        · have d3 : decide (qt < cr) = true := decide_eq_true (by omega)
          have d3' : decide (cr > qt) = true := d3
          have H3 := Aside0.mk h3
          clear h3
          refine wp_region_held_drew (S := fun w' => Below wr.heap.size wr w') (by kernel_rfl) (pw_below_drewN (Below.refl _ _) 1) (fun hHeld => ?_)
          generalize wr.drew = wd at hHeld ⊢
          refine tk (i := 0) (v := _) 11 rfl (yields_blk (by rfl) 28 (.tmp 1) rfl (w.heap.size) _ 28 rfl _ (fun w' hW => obj_below hW hS.out.1.e0) Tryd.underlying28 rfl (by kernel_rfl)) hHeld ?_
          try simp only [putL, putN, List.set]
          refine tk (i := 1) (v := _) 12 rfl (Or.inl ⟨by rfl, fun w' hW => by have hq0 := pw_cell_below hW x1; have hq1 := pw_cell_below hW y0; have hq2 := pw_cell_below hW y1; go_simp; try (first | with_reducible rfl | rfl)⟩) hHeld ?_
          try simp only [putL, putN, List.set]
          refine tk (i := 3) (v := _) 14 rfl (Or.inl ⟨by rfl, fun w' hW => by have hq0 := pw_cell_below hW x1; have hq1 := pw_cell_below hW y0; have hq2 := pw_cell_below hW y1; go_simp; try (first | with_reducible rfl | rfl)⟩) hHeld ?_
          try simp only [putL, putN, List.set]
          refine tk (i := 5) (v := _) 16 rfl (Or.inl ⟨by rfl, fun w' hW => by have hq0 := pw_cell_below hW x1; have hq1 := pw_cell_below hW y0; have hq2 := pw_cell_below hW y1; go_simp; try (first | with_reducible rfl | rfl)⟩) hHeld ?_
          try simp only [putL, putN, List.set]
          refine tk (i := 4) (v := _) 15 rfl (Or.inl ⟨by rfl, fun w' hW => by have hq0 := pw_cell_below hW x1; have hq1 := pw_cell_below hW y0; have hq2 := pw_cell_below hW y1; go_simp; try (first | with_reducible rfl | rfl)⟩) hHeld ?_
          try simp only [putL, putN, List.set]
          refine tk (i := 6) (v := _) 17 rfl (Or.inl ⟨by rfl, fun w' hW => by have hq0 := pw_cell_below hW x1; have hq1 := pw_cell_below hW y0; have hq2 := pw_cell_below hW y1; go_simp; try (first | with_reducible rfl | rfl)⟩) hHeld ?_
          try simp only [putL, putN, List.set]
          refine tk (i := 7) (v := _) 18 rfl (Or.inl ⟨by rfl, fun w' hW => by have hq0 := pw_cell_below hW x1; have hq1 := pw_cell_below hW y0; have hq2 := pw_cell_below hW y1; go_simp; try (first | with_reducible rfl | rfl)⟩) hHeld ?_
          try simp only [putL, putN, List.set]
          refine tk (i := 8) (v := _) 19 rfl (Or.inl ⟨by rfl, fun w' hW => by have hq0 := pw_cell_below hW x1; have hq1 := pw_cell_below hW y0; have hq2 := pw_cell_below hW y1; go_simp; try (first | with_reducible rfl | rfl)⟩) hHeld ?_
          try simp only [putL, putN, List.set]
          have N0 := Aside0.mk hHeld
          refine wpAnyH_ready (rs := [2]) (by kernel_rfl) (by simp) ?_
          refine AllReadyH.cons rfl (fun K hK => ?_) AllReadyH.nil
          go_simp
          go_wp2_with (first | (go_at_call 71; refine (Credits_calls C (m : Int) _ (HC.out.below (hS.out.1.b.trans (N0.out.mono hS.out.1.b.size))) HL.out).mono ?_; rintro e wa ⟨rfl, hb⟩; rw [HCR.out]; have N1 := Aside0.mk (below_step N0.out hb); clear hb))
          clear hHeld
          refine hK.out _ _ N1.out (fun hHeld => ?_)
          clear hK K
          try simp only [putL, putN, List.set]
          refine tk (i := 9) (v := _) 20 rfl (Or.inl ⟨by rfl, fun w' hW => by have hq0 := pw_cell_below hW x1; have hq1 := pw_cell_below hW y0; have hq2 := pw_cell_below hW y1; go_simp; try (first | with_reducible rfl | rfl)⟩) hHeld ?_
          try simp only [putL, putN, List.set]
          refine wpAnyH_done (by kernel_rfl) ?_ _
          clear hHeld
          have HT2 := Aside0.mk (hS.out.1.below N1.out)
          obtain ⟨u0, u1, s0, s1⟩ := HT2.out.r
          go_wp2_with fail
          have hbad : ¬ okQuo C m = true := by unfold okQuo; rw [HCR.out, HQT.out]; exact fun h => absurd (of_decide_eq_true h) (by have := H3.out; omega)
          have eq := HE.out.trans (told_hit (i := m) (by rw [if_neg hbad]; decide) (by have := H1.out; omega) (fun j hj => if_pos (hS.out.2.2 j hj)))
          rw [if_neg hbad] at eq
          simp only [Prod.mk.injEq] at eq
          obtain ⟨rfl, rfl⟩ := eq
          obtain ⟨g0, g1, g2⟩ := HT2.out.fin (m : Int) 45
          generalize ((wa.setCell ⟨w.heap.size + 1, 0, none⟩ (.int .i64 (m : Int))).setCell ⟨w.heap.size + 1, 1, none⟩ (.int .i64 45)) = w3 at g0 g1 g2 ⊢
          exact bodyPost_ret (v := .agg #[.int .i64 (m : Int), .int .i64 45]) (by simp [results, Tryd.results39, go_sem, g1, g2]) rfl ⟨rfl, g0⟩
      · skip
        have e1 : decide ((m : Int) < (C.l1.length : Int)) = false := decide_eq_false h1
        have H1 := Aside0.mk h1
        go_wp2_with fail
        have eq := HE.out.trans (told_none (fun j hj => if_pos (hS.out.2.2 j (by have := H1.out; omega))))
        simp only [Prod.mk.injEq] at eq
        obtain ⟨rfl, rfl⟩ := eq
        obtain ⟨g0, g1, g2⟩ := hS.out.1.fin 0 0
        generalize ((wr.setCell ⟨w.heap.size + 1, 0, none⟩ (.int .i64 0)).setCell ⟨w.heap.size + 1, 1, none⟩ (.int .i64 0)) = w3 at g0 g1 g2 ⊢
        exact bodyPost_ret (v := .agg #[.int .i64 0, .int .i64 0]) (by simp [results, Tryd.results39, go_sem, g1, g2]) rfl ⟨rfl, g0⟩
  exact key _ rfl
def okGat (C : Cf) (i : Nat) : Bool := isTB C (rd_T107 C.l3 (i : Int)).f0 && (isTB C (rd_T107 C.l3 (i : Int)).f1 && winB (rd_T107 C.l3 (i : Int)).f2 1 1024)
def gatF (C : Cf) : Int × Int := if C.l3.length > 16 then (0, 3) else toldOf (scan (fun i => if okGat C i = true then 0 else 46) 0 C.l3.length)
def GatI (C : Cf) (w : World) (m : Nat) (wr : World) : Prop := TB C w wr ∧ m ≤ C.l3.length ∧ ∀ j, j < m → okGat C j = true
set_option maxRecDepth 100000 in
set_option maxHeartbeats 2000000 in
theorem gates_calls (C : Cf) (w : World) (hC : C.At w) (hL : C.Lim) : Calls Tryd.prog 40 #[.agg C.v] w fun e w' => e = .returned (.agg #[.int .i64 (gatF C).1, .int .i64 (gatF C).2]) ∧ Below w.heap.size w w' := by
  have HC := Aside0.mk hC
  have HL := Aside0.mk hL
  clear hC hL
  have key : ∀ q : Int × Int, gatF C = q → Calls Tryd.prog 40 #[.agg C.v] w fun e w' => e = .returned (.agg #[.int .i64 q.1, .int .i64 q.2]) ∧ Below w.heap.size w w' := by
    rintro ⟨qn, qe⟩ hq
    have HQ := Aside0.mk hq
    clear hq
    go_enter Tryd.func40, Tryd.ntmps40
    go_upto_region 1 with fail
    have HT := Aside0.mk (TB.start C w)
    generalize ((w.alloc (.cells C.v 28)).alloc (.cells #[.int .i64 0, .int .i64 0] 90)) = w2 at HT ⊢
    obtain ⟨z0, z1, f0, f1⟩ := HT.out.r
    obtain ⟨A3, hA3⟩ : ∃ A, C.A3 = A := ⟨_, rfl⟩
    have HA3 := Aside0.mk hA3
    clear hA3
    have x3 := (cf_cell HT.out.e0).2.2.2.1
    rw [HA3.out] at x3
    by_cases h16 : C.l3.length > 16
    · have d1 : decide ((C.l3.length : Int) > 16) = true := decide_eq_true (by omega)
      have d1' : decide (16 < C.l3.length) = true := decide_eq_true h16
      have e : gatF C = (0, 3) := by unfold gatF; exact if_pos h16
      rw [HQ.out] at e
      simp only [Prod.mk.injEq] at e
      obtain ⟨rfl, rfl⟩ := e
      go_wp2_with fail
      obtain ⟨g0, g1, g2⟩ := HT.out.fin 0 3
      generalize ((w2.setCell ⟨w.heap.size + 1, 0, none⟩ (.int .i64 0)).setCell ⟨w.heap.size + 1, 1, none⟩ (.int .i64 3)) = w3 at g0 g1 g2 ⊢
      exact bodyPost_ret (v := .agg #[.int .i64 0, .int .i64 3]) (by simp [results, Tryd.results40, go_sem, g1, g2]) rfl ⟨rfl, g0⟩
    · have d1 : decide ((C.l3.length : Int) > 16) = false := decide_eq_false (by omega)
      have d1' : decide (16 < C.l3.length) = false := decide_eq_false h16
      have e : gatF C = toldOf (scan (fun i => if okGat C i = true then 0 else 46) 0 C.l3.length) := by unfold gatF; exact if_neg h16
      have HE := Aside0.mk (HQ.out.symm.trans e)
      clear e
      have H0 : Aside0 (GatI C w 0 w2) := ⟨⟨HT.out, Nat.zero_le _, fun j hj => absurd hj (by omega)⟩⟩
      go_wp2_with fail
      go_loopw [3] (fun i wr => ∃ m : Nat, i = .int .i64 (m : Int) ∧ Aside0 (GatI C w m wr)) (fun i _ => C.l3.length - (intOf i).toNat)
      case atStart => exact ⟨0, rfl, H0⟩
      case round =>
        clear H0 HT z0 z1 f0 f1 x3
        obtain ⟨m, rfl, hS⟩ := hrel
        have x3 := (cf_cell hS.out.1.e0).2.2.2.1
        rw [HA3.out] at x3
        obtain ⟨z0, z1, f0, f1⟩ := hS.out.1.r
        have hlim : C.l3.length ≤ 1000 := HL.out.l3
        by_cases h1 : (m : Int) < (C.l3.length : Int)
        · have e1 : decide ((m : Int) < (C.l3.length : Int)) = true := decide_eq_true h1
          have H1 := Aside0.mk h1
          have h00 : (0 : Int) ≤ (m : Int) := by omega
          obtain ⟨ad, eA, y0, y1, y2⟩ := at_T107 (HC.out.below hS.out.1.b).r3 (m : Int) h00 h1
          obtain rfl : A3 = some ad := HA3.out.symm.trans eA
          rw [Int.toNat_natCast] at y0 y1 y2
          obtain ⟨gx, hgx⟩ : ∃ x, rd_T107 C.l3 (m : Int) = x := ⟨_, rfl⟩
          rw [hgx] at y0 y1 y2
          have HGX := Aside0.mk hgx
          clear hgx
          obtain ⟨b1, hb1⟩ : ∃ b, isTB C gx.f0 = b := ⟨_, rfl⟩
          obtain ⟨b2, hb2⟩ : ∃ b, isTB C gx.f1 = b := ⟨_, rfl⟩
          obtain ⟨b3, hb3⟩ : ∃ b, winB gx.f2 1 1024 = b := ⟨_, rfl⟩
          have HB := Aside0.mk (And.intro hb1 (And.intro hb2 hb3))
          clear hb1 hb2 hb3
          go_upto_region 7 with fail
          have BG : Aside0 (Below wr.heap.size wr (wr.alloc (.cells #[.int .i64 gx.f0, .int .i64 gx.f1, .int .i64 gx.f2] 107))) := ⟨(Below.refl _ _).alloc (Nat.le_refl _) _⟩
          have EG : Aside0 ((wr.alloc (.cells #[.int .i64 gx.f0, .int .i64 gx.f1, .int .i64 gx.f2] 107)).heap[wr.heap.size]? = some (.cells #[.int .i64 gx.f0, .int .i64 gx.f1, .int .i64 gx.f2] 107 (0, 0))) := ⟨World.alloc_heap_new _ _⟩
          generalize wr.alloc (.cells #[.int .i64 gx.f0, .int .i64 gx.f1, .int .i64 gx.f2] 107) = wg at BG EG ⊢
          have HG := Aside0.mk (hS.out.1.below BG.out)
          have g0 : wg.cell? ⟨wr.heap.size, 0, none⟩ = some (.int .i64 gx.f0) := by simp [World.cell?, EG.out]
          have g1 : wg.cell? ⟨wr.heap.size, 1, none⟩ = some (.int .i64 gx.f1) := by simp [World.cell?, EG.out]
          have g2 : wg.cell? ⟨wr.heap.size, 2, none⟩ = some (.int .i64 gx.f2) := by simp [World.cell?, EG.out]
          cases b1 with
          | false =>
            go_upto_region 8 with (first | ((with_reducible refine gate_ (.load 28 (.tmp 1)) rfl ?_); (try (refine gate_guard (by rfl) ?_; dsimp only)); refine load_blk rfl 28 (.tmp 1) rfl w.heap.size _ 28 rfl _ (by first | exact HG.out.e0 | exact (HG.out.below N1.out).e0) Tryd.underlying28 rfl (by kernel_rfl) ?_) | (go_at_call 47; (with_reducible refine (ten_calls C gx.f0 _).mono ?_); rintro e wa ⟨rfl, hb⟩; rw [HB.out.1]; have N1 := Aside0.mk hb; have t1 := pw_cell_below hb g1; have t2 := pw_cell_below hb g2; clear hb))
            have HT2 := Aside0.mk (HG.out.below N1.out)
            obtain ⟨u0, u1, s0, s1⟩ := HT2.out.r
            go_wp2_with fail
            have hbad : ¬ okGat C m = true := by unfold okGat; rw [HGX.out, HB.out.1]; simp
            have eq := HE.out.trans (told_hit (i := m) (by rw [if_neg hbad]; decide) (by have := H1.out; omega) (fun j hj => if_pos (hS.out.2.2 j hj)))
            rw [if_neg hbad] at eq
            simp only [Prod.mk.injEq] at eq
            obtain ⟨rfl, rfl⟩ := eq
            obtain ⟨g0, g1, g2⟩ := HT2.out.fin (m : Int) 46
            generalize ((wa.setCell ⟨w.heap.size + 1, 0, none⟩ (.int .i64 (m : Int))).setCell ⟨w.heap.size + 1, 1, none⟩ (.int .i64 46)) = w3 at g0 g1 g2 ⊢
            exact bodyPost_ret (v := .agg #[.int .i64 (m : Int), .int .i64 46]) (by simp [results, Tryd.results40, go_sem, g1, g2]) rfl ⟨rfl, g0⟩
          | true =>
            cases b2 with
            | false =>
              go_upto_region 8 with (first | ((with_reducible refine gate_ (.load 28 (.tmp 1)) rfl ?_); (try (refine gate_guard (by rfl) ?_; dsimp only)); refine load_blk rfl 28 (.tmp 1) rfl w.heap.size _ 28 rfl _ (by first | exact HG.out.e0 | exact (HG.out.below N1.out).e0) Tryd.underlying28 rfl (by kernel_rfl) ?_) | (go_at_call 47; (with_reducible refine (ten_calls C gx.f0 _).mono ?_); rintro e wa ⟨rfl, hb⟩; rw [HB.out.1]; have N1 := Aside0.mk hb; have t1 := pw_cell_below hb g1; have t2 := pw_cell_below hb g2; clear hb) | (go_at_call 47; (with_reducible refine (ten_calls C gx.f1 _).mono ?_); rintro e wb ⟨rfl, hb⟩; rw [HB.out.2.1]; have N2 := Aside0.mk hb; have t3 := pw_cell_below hb t2; clear hb))
              have HT2 := Aside0.mk ((HG.out.below N1.out).below N2.out)
              obtain ⟨u0, u1, s0, s1⟩ := HT2.out.r
              go_wp2_with fail
              have hbad : ¬ okGat C m = true := by unfold okGat; rw [HGX.out, HB.out.1, HB.out.2.1]; simp
              have eq := HE.out.trans (told_hit (i := m) (by rw [if_neg hbad]; decide) (by have := H1.out; omega) (fun j hj => if_pos (hS.out.2.2 j hj)))
              rw [if_neg hbad] at eq
              simp only [Prod.mk.injEq] at eq
              obtain ⟨rfl, rfl⟩ := eq
              obtain ⟨g0, g1, g2⟩ := HT2.out.fin (m : Int) 46
              generalize ((wb.setCell ⟨w.heap.size + 1, 0, none⟩ (.int .i64 (m : Int))).setCell ⟨w.heap.size + 1, 1, none⟩ (.int .i64 46)) = w3 at g0 g1 g2 ⊢
              exact bodyPost_ret (v := .agg #[.int .i64 (m : Int), .int .i64 46]) (by simp [results, Tryd.results40, go_sem, g1, g2]) rfl ⟨rfl, g0⟩
            | true =>
              cases b3 with
              | false =>
                go_upto_region 8 with (first | ((with_reducible refine gate_ (.load 28 (.tmp 1)) rfl ?_); (try (refine gate_guard (by rfl) ?_; dsimp only)); refine load_blk rfl 28 (.tmp 1) rfl w.heap.size _ 28 rfl _ (by first | exact HG.out.e0 | exact (HG.out.below N1.out).e0) Tryd.underlying28 rfl (by kernel_rfl) ?_) | (go_at_call 47; (with_reducible refine (ten_calls C gx.f0 _).mono ?_); rintro e wa ⟨rfl, hb⟩; rw [HB.out.1]; have N1 := Aside0.mk hb; have t1 := pw_cell_below hb g1; have t2 := pw_cell_below hb g2; clear hb) | (go_at_call 47; (with_reducible refine (ten_calls C gx.f1 _).mono ?_); rintro e wb ⟨rfl, hb⟩; rw [HB.out.2.1]; have N2 := Aside0.mk hb; have t3 := pw_cell_below hb t2; clear hb) | (go_at_call 68; refine (win_calls _ _ _ _).mono ?_; rintro e wc ⟨rfl, rfl⟩; rw [HB.out.2.2]))
                have HT2 := Aside0.mk ((HG.out.below N1.out).below N2.out)
                obtain ⟨u0, u1, s0, s1⟩ := HT2.out.r
                go_wp2_with fail
                have hbad : ¬ okGat C m = true := by unfold okGat; rw [HGX.out, HB.out.1, HB.out.2.1, HB.out.2.2]; decide
                have eq := HE.out.trans (told_hit (i := m) (by rw [if_neg hbad]; decide) (by have := H1.out; omega) (fun j hj => if_pos (hS.out.2.2 j hj)))
                rw [if_neg hbad] at eq
                simp only [Prod.mk.injEq] at eq
                obtain ⟨rfl, rfl⟩ := eq
                obtain ⟨g0, g1, g2⟩ := HT2.out.fin (m : Int) 46
                generalize ((wb.setCell ⟨w.heap.size + 1, 0, none⟩ (.int .i64 (m : Int))).setCell ⟨w.heap.size + 1, 1, none⟩ (.int .i64 46)) = w3 at g0 g1 g2 ⊢
                exact bodyPost_ret (v := .agg #[.int .i64 (m : Int), .int .i64 46]) (by simp [results, Tryd.results40, go_sem, g1, g2]) rfl ⟨rfl, g0⟩
              | true =>
                go_wp2_with (first | ((with_reducible refine gate_ (.load 28 (.tmp 1)) rfl ?_); (try (refine gate_guard (by rfl) ?_; dsimp only)); refine load_blk rfl 28 (.tmp 1) rfl w.heap.size _ 28 rfl _ (by first | exact HG.out.e0 | exact (HG.out.below N1.out).e0) Tryd.underlying28 rfl (by kernel_rfl) ?_) | (go_at_call 47; (with_reducible refine (ten_calls C gx.f0 _).mono ?_); rintro e wa ⟨rfl, hb⟩; rw [HB.out.1]; have N1 := Aside0.mk hb; have t1 := pw_cell_below hb g1; have t2 := pw_cell_below hb g2; clear hb) | (go_at_call 47; (with_reducible refine (ten_calls C gx.f1 _).mono ?_); rintro e wb ⟨rfl, hb⟩; rw [HB.out.2.1]; have N2 := Aside0.mk hb; have t3 := pw_cell_below hb t2; clear hb) | (go_at_call 68; refine (win_calls _ _ _ _).mono ?_; rintro e wc ⟨rfl, rfl⟩; rw [HB.out.2.2]))
                have HT2 := Aside0.mk ((HG.out.below N1.out).below N2.out)
                go_roundw
                case rel => exact ⟨m + 1, by go_num, ⟨HT2.out, by have := H1.out; omega, fun j hj => by
                  by_cases e : j = m
                  · subst e; unfold okGat; rw [HGX.out, HB.out.1, HB.out.2.1, HB.out.2.2]; rfl
                  · exact hS.out.2.2 j (by omega)⟩⟩
                case measure => simp [intOf]; have := H1.out; omega
        · skip
          have e1 : decide ((m : Int) < (C.l3.length : Int)) = false := decide_eq_false h1
          have H1 := Aside0.mk h1
          go_wp2_with fail
          have eq := HE.out.trans (told_none (fun j hj => if_pos (hS.out.2.2 j (by have := H1.out; omega))))
          simp only [Prod.mk.injEq] at eq
          obtain ⟨rfl, rfl⟩ := eq
          obtain ⟨g0, g1, g2⟩ := hS.out.1.fin 0 0
          generalize ((wr.setCell ⟨w.heap.size + 1, 0, none⟩ (.int .i64 0)).setCell ⟨w.heap.size + 1, 1, none⟩ (.int .i64 0)) = w3 at g0 g1 g2 ⊢
          exact bodyPost_ret (v := .agg #[.int .i64 0, .int .i64 0]) (by simp [results, Tryd.results40, go_sem, g1, g2]) rfl ⟨rfl, g0⟩
  exact key _ rfl
def budF (C : Cf) : Int × Int := if (winB C.a5 1 16 && (winB C.a6 1 4 && winB C.a7 1 4)) = true then (0, 0) else (0, 48)
set_option maxRecDepth 100000 in
set_option maxHeartbeats 2000000 in
theorem budget_calls (C : Cf) (w : World) (hC : C.At w) (hL : C.Lim) : Calls Tryd.prog 42 #[.agg C.v] w fun e w' => e = .returned (.agg #[.int .i64 (budF C).1, .int .i64 (budF C).2]) ∧ Below w.heap.size w w' := by
  have HC := Aside0.mk hC
  have HL := Aside0.mk hL
  clear hC hL
  have key : ∀ q : Int × Int, budF C = q → Calls Tryd.prog 42 #[.agg C.v] w fun e w' => e = .returned (.agg #[.int .i64 q.1, .int .i64 q.2]) ∧ Below w.heap.size w w' := by
    rintro ⟨qn, qe⟩ hq
    have HQ := Aside0.mk hq
    clear hq
    go_enter Tryd.func42, Tryd.ntmps42
    go_upto_region 1 with fail
    have HT := Aside0.mk (TB.start C w)
    generalize ((w.alloc (.cells C.v 28)).alloc (.cells #[.int .i64 0, .int .i64 0] 90)) = w2 at HT ⊢
    obtain ⟨z0, z1, f0, f1⟩ := HT.out.r
    have x5 := (cf_cell HT.out.e0).2.2.2.2.2.1
    have x6 := (cf_cell HT.out.e0).2.2.2.2.2.2.1
    have x7 := (cf_cell HT.out.e0).2.2.2.2.2.2.2
    obtain ⟨b1, hb1⟩ : ∃ b, winB C.a5 1 16 = b := ⟨_, rfl⟩
    obtain ⟨b2, hb2⟩ : ∃ b, winB C.a6 1 4 = b := ⟨_, rfl⟩
    obtain ⟨b3, hb3⟩ : ∃ b, winB C.a7 1 4 = b := ⟨_, rfl⟩
    have HB := Aside0.mk (And.intro hb1 (And.intro hb2 hb3))
    have HE : Aside0 ((qn, qe) = if (b1 && (b2 && b3)) = true then (0, 0) else (0, 48)) := ⟨by rw [← HQ.out, ← hb1, ← hb2, ← hb3]; rfl⟩
    clear hb1 hb2 hb3
    cases b1 with
    | false =>
      have eq := HE.out
      simp at eq
      obtain ⟨rfl, rfl⟩ := eq
      go_wp2_with (go_at_call 68; refine (win_calls _ _ _ _).mono ?_; rintro e wc ⟨rfl, rfl⟩; first | rw [HB.out.1] | rw [HB.out.2.1] | rw [HB.out.2.2])
      obtain ⟨g0, g1, g2⟩ := HT.out.fin 0 48
      generalize ((w2.setCell ⟨w.heap.size + 1, 0, none⟩ (.int .i64 0)).setCell ⟨w.heap.size + 1, 1, none⟩ (.int .i64 48)) = w3 at g0 g1 g2 ⊢
      exact bodyPost_ret (v := .agg #[.int .i64 0, .int .i64 48]) (by simp [results, Tryd.results42, go_sem, g1, g2]) rfl ⟨rfl, g0⟩
    | true =>
      cases b2 with
      | false =>
        have eq := HE.out
        simp at eq
        obtain ⟨rfl, rfl⟩ := eq
        go_wp2_with (go_at_call 68; refine (win_calls _ _ _ _).mono ?_; rintro e wc ⟨rfl, rfl⟩; first | rw [HB.out.1] | rw [HB.out.2.1] | rw [HB.out.2.2])
        obtain ⟨g0, g1, g2⟩ := HT.out.fin 0 48
        generalize ((w2.setCell ⟨w.heap.size + 1, 0, none⟩ (.int .i64 0)).setCell ⟨w.heap.size + 1, 1, none⟩ (.int .i64 48)) = w3 at g0 g1 g2 ⊢
        exact bodyPost_ret (v := .agg #[.int .i64 0, .int .i64 48]) (by simp [results, Tryd.results42, go_sem, g1, g2]) rfl ⟨rfl, g0⟩
      | true =>
        cases b3 with
        | false =>
          have eq := HE.out
          simp at eq
          obtain ⟨rfl, rfl⟩ := eq
          go_wp2_with (go_at_call 68; refine (win_calls _ _ _ _).mono ?_; rintro e wc ⟨rfl, rfl⟩; first | rw [HB.out.1] | rw [HB.out.2.1] | rw [HB.out.2.2])
          obtain ⟨g0, g1, g2⟩ := HT.out.fin 0 48
          generalize ((w2.setCell ⟨w.heap.size + 1, 0, none⟩ (.int .i64 0)).setCell ⟨w.heap.size + 1, 1, none⟩ (.int .i64 48)) = w3 at g0 g1 g2 ⊢
          exact bodyPost_ret (v := .agg #[.int .i64 0, .int .i64 48]) (by simp [results, Tryd.results42, go_sem, g1, g2]) rfl ⟨rfl, g0⟩
        | true =>
          have eq := HE.out
          simp at eq
          obtain ⟨rfl, rfl⟩ := eq
          go_wp2_with (go_at_call 68; refine (win_calls _ _ _ _).mono ?_; rintro e wc ⟨rfl, rfl⟩; first | rw [HB.out.1] | rw [HB.out.2.1] | rw [HB.out.2.2])
          obtain ⟨g0, g1, g2⟩ := HT.out.fin 0 0
          generalize ((w2.setCell ⟨w.heap.size + 1, 0, none⟩ (.int .i64 0)).setCell ⟨w.heap.size + 1, 1, none⟩ (.int .i64 0)) = w3 at g0 g1 g2 ⊢
          exact bodyPost_ret (v := .agg #[.int .i64 0, .int .i64 0]) (by simp [results, Tryd.results42, go_sem, g1, g2]) rfl ⟨rfl, g0⟩
  exact key _ rfl
end Go.Proofs.YtoliipbmcekciaaDoor.QDd

