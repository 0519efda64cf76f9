/- Lane: Lay, Ready, Publish. -/
import Derived.Test.YtglekbbdbnpohaaFLn
namespace Go.Proofs.Ytglekbbdbnpohaa.QLn
open Go.RowKit Go.Proofs.YtglekbbdbnpohaaW.PrintWords Go.Proofs.YtglekbbdbnpohaaW.PrintLast Go.Proofs.YtglekbbdbnpohaaW.PrintMore
set_option linter.unusedVariables false
set_option linter.unusedSimpArgs false
def layS (s : LS) (i : Nat) (n g : Int) : LS := { s with ring := upd s.ring i { s.ring i with is := 2, n := n, g := g } }
def layF (s : LS) (q ep n g : Int) : LS × Int := match claimF s q ep with
  | none => (s, 82)
  | some i => (layS s i n g, 0)
theorem claimF_lt {s : LS} (hp : Pw s.size) {q ep : Int} {i : Nat} (h : claimF s q ep = some i) : i < 64 := by
  unfold claimF at h
  split at h
  · cases h; exact pl_lt hp _
  · cases h
/-- The cells of an entry. -/
theorem Bd.ecells {b mb : Nat} {w w1 : World} {s : LS} {L : List (Nat × Obj)} (h : Bd b mb w s L w1) {i : Nat} (hi : i < 64) :
    w1.cell? ⟨b, 4 + i * 5, none⟩ = some (.int .i64 (s.ring i).is) ∧ w1.cell? ⟨b, 4 + i * 5 + 1, none⟩ = some (.int .i64 (s.ring i).n) ∧ w1.cell? ⟨b, 4 + i * 5 + 2, none⟩ = some (.int .u64 (s.ring i).g) ∧
    w1.cell? ⟨b, 4 + i * 5 + 3, none⟩ = some (.int .i64 (s.ring i).tk) ∧ w1.cell? ⟨b, 4 + i * 5 + 4, none⟩ = some (.int .i64 (s.ring i).st) :=
  ⟨h.ln.ent i hi 0 (by omega), h.ln.ent i hi 1 (by omega), h.ln.ent i hi 2 (by omega), h.ln.ent i hi 3 (by omega), h.ln.ent i hi 4 (by omega)⟩
set_option maxHeartbeats 2000000 in
theorem Lay_calls (b : Nat) (s : LS) (q ep n g : Int) (hc : 0 < s.credit) (hq : U64 q) (hp : Pw s.size) (w : World) (h : Ln w b s) : Calls Try.prog 16 #[.pointer (some ⟨b, 0, none⟩), .agg (aTick q ep), .agg (aSlot n g)] w fun e w' =>
    e = .returned (.int .i64 (layF s q ep n g).2) ∧ Ln w' b (layF s q ep n g).1 ∧ Far b s.mb w w' := by
  have HQ := Aside0.mk hq
  have HP := Aside0.mk hp
  have d1 : decide (s.credit > 0) = true := decide_eq_true hc
  have HB0 := Aside0.mk (((Bd.start h).alloc (.cells (aTick q ep) 34)).alloc (.cells (aSlot n g) 36))
  have hgne : (w.alloc (.cells (aTick q ep) 34)).heap.size ≠ b := by have := h.lt; rw [World.size_alloc]; omega
  rw [show (w.alloc (.cells (aTick q ep) 34)).heap.size = w.heap.size + 1 from World.size_alloc _ _] at HB0 hgne
  clear h hc hq hp
  go_enter Try.func16, Try.ntmps16
  go_upto_region 1 with fail
  generalize (w.alloc (.cells (aTick q ep) 34)).alloc (.cells (aSlot n g) 36) = w1 at HB0 ⊢
  go_upto_region 3 with (go_at_call 34; refine (is_calls b s _ HB0.out.ln).mono ?_; rintro e1 w2 ⟨rfl, hw2⟩; have HB1 := Aside0.mk (HB0.out.below hw2); clear hw2)
  have t0 : w2.cell? ⟨w.heap.size, 0, none⟩ = some (.int .u64 q) := (HB1.out.ptr (List.mem_cons_of_mem _ List.mem_cons_self) 0).1
  have t1 : w2.cell? ⟨w.heap.size, 1, none⟩ = some (.int .u64 ep) := (HB1.out.ptr (List.mem_cons_of_mem _ List.mem_cons_self) 1).1
  obtain ⟨r, hr⟩ : ∃ r, claimF s q ep = r := ⟨_, rfl⟩
  have HR := Aside0.mk hr
  have HC : Aside0 (∀ w, Ln w b s → Calls Try.prog 36 #[.pointer (some ⟨b, 0, none⟩), .agg #[.int .u64 q, .int .u64 ep]] w fun e w' => e = .returned (.pointer (r.map (fun i => ⟨b, 4 + i * 5, none⟩))) ∧ Below w.heap.size w w') := ⟨fun w hw => by rw [← hr]; exact claim_calls b s q ep HQ.out HP.out w hw⟩
  clear hr
  cases r with
  | none =>
    have HF : Aside0 (layF s q ep n g = (s, 82)) := ⟨by unfold layF; rw [HR.out]⟩
    go_wp2_with (go_at_call 36; refine (HC.out _ HB1.out.ln).mono ?_; rintro e1 w3 ⟨rfl, hw3⟩; have HB2 := Aside0.mk (HB1.out.below hw3); clear hw3)
    go_ret
    rw [HF.out]
    exact ⟨rfl, HB2.out.ln, HB2.out.far⟩
  | some i =>
    have HF : Aside0 (layF s q ep n g = (layS s i n g, 0)) := ⟨by unfold layF; rw [HR.out]⟩
    have hi := claimF_lt HP.out HR.out
    go_upto_region 6 with (go_at_call 36; refine (HC.out _ HB1.out.ln).mono ?_; rintro e1 w3 ⟨rfl, hw3⟩; have HB2 := Aside0.mk (HB1.out.below hw3); clear hw3)
    obtain ⟨x0, x1, x2, x3, x4⟩ := HB2.out.ecells hi
    have y0 := HB2.out.ln.frozen (4 + i * 5)
    have y1 := HB2.out.ln.frozen (4 + i * 5 + 1)
    have y2 := HB2.out.ln.frozen (4 + i * 5 + 2)
    have z0 : w3.cell? ⟨w.heap.size + 1, 0, none⟩ = some (.int .i64 n) := (HB2.out.ptr List.mem_cons_self 0).1
    have z1 : w3.cell? ⟨w.heap.size + 1, 1, none⟩ = some (.int .u64 g) := (HB2.out.ptr List.mem_cons_self 1).1
    clear t0 t1 HC HR
    go_region
    have HB3 : Aside0 (Bd b s.mb w (layS s i n g) [(w.heap.size + 1, .cells (aSlot n g) 36), (w.heap.size, .cells (aTick q ep) 34)] (((w3.setCell ⟨b, 4 + i * 5, none⟩ (.int .i64 2)).setCell ⟨b, 4 + i * 5 + 1, none⟩ (.int .i64 n)).setCell ⟨b, 4 + i * 5 + 1 + 1, none⟩ (.int .u64 g)).drew) :=
      ⟨(HB2.out.ent i hi { s.ring i with is := 2, n := n, g := g } 0 [.int .i64 2, .int .i64 n, .int .u64 g] (by simp) (fun j hj => by
        have : j = 0 ∨ j = 1 ∨ j = 2 ∨ j = 3 ∨ j = 4 := by omega
        rcases this with rfl | rfl | rfl | rfl | rfl <;> rfl)).below (Below.refl _ _).drew⟩
    go_wp2
    go_ret
    rw [HF.out]
    exact ⟨rfl, HB3.out.ln, HB3.out.far⟩
def readyF (s : LS) (q ep : Int) : Bool := match claimF s q ep with
  | none => false
  | some i => (s.ring i).is == 2 && q == s.ready
set_option maxHeartbeats 2000000 in
theorem Ready_calls (b : Nat) (s : LS) (q ep : Int) (hc : 0 < s.credit) (hq : U64 q) (hp : Pw s.size) (w : World) (h : Ln w b s) : Calls Try.prog 21 #[.pointer (some ⟨b, 0, none⟩), .agg (aTick q ep)] w fun e w' =>
    e = .returned (.bool (readyF s q ep)) ∧ Below w.heap.size w w' := by
  have HQ := Aside0.mk hq
  have HP := Aside0.mk hp
  have d1 : decide (s.credit > 0) = true := decide_eq_true hc
  have HB0 := Aside0.mk ((Bd.start h).alloc (.cells (aTick q ep) 34))
  have HW0 : Aside0 (Below w.heap.size w (w.alloc (.cells (aTick q ep) 34))) := ⟨(Below.refl _ _).alloc (Nat.le_refl _) _⟩
  clear h hc hq hp
  go_enter Try.func21, Try.ntmps21
  go_upto_region 1 with fail
  generalize w.alloc (.cells (aTick q ep) 34) = w1 at HB0 HW0 ⊢
  go_upto_region 3 with (go_at_call 34; refine (is_calls b s _ HB0.out.ln).mono ?_; rintro e1 w2 ⟨rfl, hw2⟩; have HB1 := Aside0.mk (HB0.out.below hw2); have HW1 := Aside0.mk (HW0.out.trans (hw2.mono HW0.out.size)); clear hw2)
  have t0 : w2.cell? ⟨w.heap.size, 0, none⟩ = some (.int .u64 q) := (HB1.out.ptr List.mem_cons_self 0).1
  have t1 : w2.cell? ⟨w.heap.size, 1, none⟩ = some (.int .u64 ep) := (HB1.out.ptr List.mem_cons_self 1).1
  obtain ⟨r, hr⟩ : ∃ r, claimF s q ep = r := ⟨_, rfl⟩
  have HR := Aside0.mk hr
  have HC : Aside0 (∀ w, Ln w b s → Calls Try.prog 36 #[.pointer (some ⟨b, 0, none⟩), .agg #[.int .u64 q, .int .u64 ep]] w fun e w' => e = .returned (.pointer (r.map (fun i => ⟨b, 4 + i * 5, none⟩))) ∧ Below w.heap.size w w') := ⟨fun w hw => by rw [← hr]; exact claim_calls b s q ep HQ.out HP.out w hw⟩
  clear hr
  cases r with
  | none =>
    have HF : Aside0 (readyF s q ep = false) := ⟨by unfold readyF; rw [HR.out]⟩
    go_upto_region 4 with (go_at_call 36; refine (HC.out _ HB1.out.ln).mono ?_; rintro e1 w3 ⟨rfl, hw3⟩; have HB2 := Aside0.mk (HB1.out.below hw3); have HW2 := Aside0.mk (HW1.out.trans (hw3.mono HW1.out.size)); clear hw3)
    go_quiet (fail)
    have HW3 := Aside0.mk (pw_below_drewN HW2.out nq)
    go_wp2
    go_ret
    rw [HF.out]
    exact ⟨rfl, HW3.out⟩
  | some i =>
    have hi := claimF_lt HP.out HR.out
    go_upto_region 4 with (go_at_call 36; refine (HC.out _ HB1.out.ln).mono ?_; rintro e1 w3 ⟨rfl, hw3⟩; have HB2 := Aside0.mk (HB1.out.below hw3); have HW2 := Aside0.mk (HW1.out.trans (hw3.mono HW1.out.size)); clear hw3)
    obtain ⟨x0, x1, x2, x3, x4⟩ := HB2.out.ecells hi
    have z0 : w3.cell? ⟨w.heap.size, 0, none⟩ = some (.int .u64 q) := (HB2.out.ptr List.mem_cons_self 0).1
    have c7 : w3.cell? ⟨b, 326, none⟩ = some (.int .u64 s.ready) := HB2.out.ln.cell 326 (by omega)
    clear t0 t1 x1 x2 x3 x4
    obtain ⟨v, hv⟩ : ∃ v, ((s.ring i).is == 2) = v := ⟨_, rfl⟩
    cases v with
    | false =>
      have HF : Aside0 (readyF s q ep = false) := ⟨by unfold readyF; rw [HR.out]; simp only [hv, Bool.false_and]⟩
      clear HC HR
      go_quiet (fail)
      have HW3 := Aside0.mk (pw_below_drewN HW2.out nq)
      go_wp2
      go_ret
      rw [HF.out]
      exact ⟨rfl, HW3.out⟩
    | true =>
      have HF : Aside0 (readyF s q ep = (q == s.ready)) := ⟨by unfold readyF; rw [HR.out]; simp only [hv, Bool.true_and]⟩
      clear HC HR
      go_quiet (fail)
      have HW3 := Aside0.mk (pw_below_drewN HW2.out nq)
      go_wp2
      go_ret
      rw [HF.out]
      exact ⟨rfl, HW3.out⟩
def pubS (s : LS) (i : Nat) (x y : Int) : LS := { s with ring := upd s.ring i { s.ring i with is := 3, tk := x, st := y }, ready := IntKind.u64.wrap (s.ready + 1) }
def pubF (s : LS) (q ep x y : Int) : LS × Int := match claimF s q ep with
  | none => (s, 82)
  | some i => if (s.ring i).is ≠ 2 then (s, 82) else if q ≠ s.ready then (s, 83) else (pubS s i x y, 0)
set_option maxHeartbeats 2000000 in
theorem Publish_calls (b : Nat) (s : LS) (q ep x y : Int) (hc : 0 < s.credit) (hq : U64 q) (hp : Pw s.size) (w : World) (h : Ln w b s) : Calls Try.prog 20 #[.pointer (some ⟨b, 0, none⟩), .agg (aTick q ep), .agg (aStamp x y)] w fun e w' =>
    e = .returned (.int .i64 (pubF s q ep x y).2) ∧ Ln w' b (pubF s q ep x y).1 ∧ Far b s.mb w w' := by
  have HQ := Aside0.mk hq
  have HP := Aside0.mk hp
  have d1 : decide (s.credit > 0) = true := decide_eq_true hc
  have HB0 := Aside0.mk (((Bd.start h).alloc (.cells (aTick q ep) 34)).alloc (.cells (aStamp x y) 38))
  have hgne : (w.alloc (.cells (aTick q ep) 34)).heap.size ≠ b := by have := h.lt; rw [World.size_alloc]; omega
  rw [show (w.alloc (.cells (aTick q ep) 34)).heap.size = w.heap.size + 1 from World.size_alloc _ _] at HB0 hgne
  clear h hc hq hp
  go_enter Try.func20, Try.ntmps20
  go_upto_region 1 with fail
  generalize (w.alloc (.cells (aTick q ep) 34)).alloc (.cells (aStamp x y) 38) = w1 at HB0 ⊢
  go_upto_region 3 with (go_at_call 34; refine (is_calls b s _ HB0.out.ln).mono ?_; rintro e1 w2 ⟨rfl, hw2⟩; have HB1 := Aside0.mk (HB0.out.below hw2); clear hw2)
  have t0 : w2.cell? ⟨w.heap.size, 0, none⟩ = some (.int .u64 q) := (HB1.out.ptr (List.mem_cons_of_mem _ List.mem_cons_self) 0).1
  have t1 : w2.cell? ⟨w.heap.size, 1, none⟩ = some (.int .u64 ep) := (HB1.out.ptr (List.mem_cons_of_mem _ List.mem_cons_self) 1).1
  obtain ⟨r, hr⟩ : ∃ r, claimF s q ep = r := ⟨_, rfl⟩
  have HR := Aside0.mk hr
  have HC : Aside0 (∀ w, Ln w b s → Calls Try.prog 36 #[.pointer (some ⟨b, 0, none⟩), .agg #[.int .u64 q, .int .u64 ep]] w fun e w' => e = .returned (.pointer (r.map (fun i => ⟨b, 4 + i * 5, none⟩))) ∧ Below w.heap.size w w') := ⟨fun w hw => by rw [← hr]; exact claim_calls b s q ep HQ.out HP.out w hw⟩
  clear hr
  cases r with
  | none =>
    have HF : Aside0 (pubF s q ep x y = (s, 82)) := ⟨by unfold pubF; rw [HR.out]⟩
    go_wp2_with (go_at_call 36; refine (HC.out _ HB1.out.ln).mono ?_; rintro e1 w3 ⟨rfl, hw3⟩; have HB2 := Aside0.mk (HB1.out.below hw3); clear hw3)
    go_ret
    rw [HF.out]
    exact ⟨rfl, HB2.out.ln, HB2.out.far⟩
  | some i =>
    have hi := claimF_lt HP.out HR.out
    go_upto_region 4 with (go_at_call 36; refine (HC.out _ HB1.out.ln).mono ?_; rintro e1 w3 ⟨rfl, hw3⟩; have HB2 := Aside0.mk (HB1.out.below hw3); clear hw3)
    obtain ⟨x0, x1, x2, x3, x4⟩ := HB2.out.ecells hi
    have y0 := HB2.out.ln.frozen (4 + i * 5)
    have y3 := HB2.out.ln.frozen (4 + i * 5 + 3)
    have y4 := HB2.out.ln.frozen (4 + i * 5 + 4)
    have z0 : w3.cell? ⟨w.heap.size, 0, none⟩ = some (.int .u64 q) := (HB2.out.ptr (List.mem_cons_of_mem _ List.mem_cons_self) 0).1
    have z1 : w3.cell? ⟨w.heap.size + 1, 0, none⟩ = some (.int .i64 x) := (HB2.out.ptr List.mem_cons_self 0).1
    have z2 : w3.cell? ⟨w.heap.size + 1, 1, none⟩ = some (.int .i64 y) := (HB2.out.ptr List.mem_cons_self 1).1
    have c7 : w3.cell? ⟨b, 326, none⟩ = some (.int .u64 s.ready) := HB2.out.ln.cell 326 (by omega)
    clear t0 t1 x1 x2
    by_cases h2 : (s.ring i).is = 2
    · have e2 : ((s.ring i).is != 2) = false := by simp [h2]
      have HE := Aside0.mk h2
      clear h2
      by_cases h3 : q = s.ready
      · have e3 : (q != s.ready) = false := by simp [h3]
        have HF : Aside0 (pubF s q ep x y = (pubS s i x y, 0)) := ⟨by unfold pubF; rw [HR.out]; simp only; rw [if_neg (fun h => h HE.out), if_neg (fun h => h h3)]⟩
        clear h3 HC HR
        go_upto_region 6 with fail
        go_quiet (fail)
        replace HB2 : Aside0 (Bd b s.mb w s [(w.heap.size + 1, .cells (aStamp x y) 38), (w.heap.size, .cells (aTick q ep) 34)] (w3.drewN nq)) := ⟨HB2.out.below (pw_below_drewN (Below.refl _ _) nq)⟩
        replace x0 : (w3.drewN nq).cell? ⟨b, 4 + i * 5, none⟩ = some (.int .i64 (s.ring i).is) := x0
        replace x3 : (w3.drewN nq).cell? ⟨b, 4 + i * 5 + 3, none⟩ = some (.int .i64 (s.ring i).tk) := x3
        replace x4 : (w3.drewN nq).cell? ⟨b, 4 + i * 5 + 4, none⟩ = some (.int .i64 (s.ring i).st) := x4
        replace y0 : (w3.drewN nq).frozen? ⟨b, 4 + i * 5, none⟩ = false := y0
        replace y3 : (w3.drewN nq).frozen? ⟨b, 4 + i * 5 + 3, none⟩ = false := y3
        replace y4 : (w3.drewN nq).frozen? ⟨b, 4 + i * 5 + 4, none⟩ = false := y4
        replace z1 : (w3.drewN nq).cell? ⟨w.heap.size + 1, 0, none⟩ = some (.int .i64 x) := z1
        replace z2 : (w3.drewN nq).cell? ⟨w.heap.size + 1, 1, none⟩ = some (.int .i64 y) := z2
        clear z0 c7
        generalize w3.drewN nq = w4 at HB2 x0 x3 x4 y0 y3 y4 z1 z2 ⊢
        go_upto_region 8 with fail
        go_region
        have HB3 := Aside0.mk (HB2.out.ent i hi { s.ring i with is := 3 } 0 [.int .i64 3] (by simp) (fun j hj => by
          have : j = 0 ∨ j = 1 ∨ j = 2 ∨ j = 3 ∨ j = 4 := by omega
          rcases this with rfl | rfl | rfl | rfl | rfl <;> rfl))
        have HB4 := Aside0.mk (HB3.out.ent i hi { s.ring i with is := 3, tk := x, st := y } 3 [.int .i64 x, .int .i64 y] (by simp) (fun j hj => by
          have e : upd s.ring i { s.ring i with is := 3 } i = { s.ring i with is := 3 } := by unfold upd; rw [if_pos rfl]
          simp only [e]
          have : j = 0 ∨ j = 1 ∨ j = 2 ∨ j = 3 ∨ j = 4 := by omega
          rcases this with rfl | rfl | rfl | rfl | rfl <;> rfl))
        have eu : upd (upd s.ring i { s.ring i with is := 3 }) i { s.ring i with is := 3, tk := x, st := y } = upd s.ring i { s.ring i with is := 3, tk := x, st := y } := by funext j; unfold upd; by_cases e : j = i <;> simp [e]
        have hb4 := HB4.out
        simp only [eu] at hb4
        have HB5 : Aside0 (Bd b s.mb w { s with ring := upd s.ring i { s.ring i with is := 3, tk := x, st := y } } [(w.heap.size + 1, .cells (aStamp x y) 38), (w.heap.size, .cells (aTick q ep) 34)] (((w4.setCell ⟨b, 4 + i * 5, none⟩ (.int .i64 3)).setCell ⟨b, 4 + i * 5 + 3, none⟩ (.int .i64 x)).setCell ⟨b, 4 + i * 5 + 3 + 1, none⟩ (.int .i64 y)).drew) := ⟨hb4.below (Below.refl _ _).drew⟩
        clear HB2 HB3 HB4 hb4 eu x0 x3 x4 y0 y3 y4 z1 z2
        generalize (((w4.setCell ⟨b, 4 + i * 5, none⟩ (.int .i64 3)).setCell ⟨b, 4 + i * 5 + 3, none⟩ (.int .i64 x)).setCell ⟨b, 4 + i * 5 + 3 + 1, none⟩ (.int .i64 y)).drew = w5 at HB5 ⊢
        have c7 : w5.cell? ⟨b, 326, none⟩ = some (.int .u64 s.ready) := HB5.out.ln.cell 326 (by omega)
        have f7 : w5.frozen? ⟨b, 326, none⟩ = false := HB5.out.ln.frozen 326
        go_wp2
        go_ret
        have HB6 := HB5.out.lane1 326 (.int .u64 (IntKind.u64.wrap (s.ready + 1))) (by omega) (lval_ready _ _) rfl rfl rfl
        rw [HF.out]
        exact ⟨rfl, HB6.ln, HB6.far⟩
      · have e3 : (q != s.ready) = true := by simp [h3]
        have HF : Aside0 (pubF s q ep x y = (s, 83)) := ⟨by unfold pubF; rw [HR.out]; simp only; rw [if_neg (fun h => h HE.out), if_pos h3]⟩
        clear h3 HC HR
        go_upto_region 6 with fail
        go_quiet (fail)
        replace HB2 : Aside0 (Bd b s.mb w s [(w.heap.size + 1, .cells (aStamp x y) 38), (w.heap.size, .cells (aTick q ep) 34)] (w3.drewN nq)) := ⟨HB2.out.below (pw_below_drewN (Below.refl _ _) nq)⟩
        go_wp2
        go_ret
        rw [HF.out]
        exact ⟨rfl, HB2.out.ln, HB2.out.far⟩
    · have e2 : ((s.ring i).is != 2) = true := by simp [h2]
      have HF : Aside0 (pubF s q ep x y = (s, 82)) := ⟨by unfold pubF; rw [HR.out]; simp only; rw [if_pos h2]⟩
      clear h2 HC HR
      go_wp2
      go_ret
      rw [HF.out]
      exact ⟨rfl, HB2.out.ln, HB2.out.far⟩
end Go.Proofs.Ytglekbbdbnpohaa.QLn
