/- Lane: the walk of LaneNobody. Written by a program of this repo (tools/gen_lnobody.py). -/
import Derived.Test.YtglekbbdbnpohaaSLn
import Derived.Test.YtglekbbdbnpohaaTKLn
namespace Go.Proofs.Ytglekbbdbnpohaa.QLn
open Go.RowKit Go.Proofs.YtglekbbdbnpohaaW.PrintWords Go.Proofs.YtglekbbdbnpohaaW.PrintLast Go.Proofs.YtglekbbdbnpohaaW.PrintMore
set_option linter.unusedVariables false
set_option linter.unusedSimpArgs false
/-- Boxes. -/
structure Bx (w0 : World) (L : List (Nat × Obj)) (w : World) : Prop where
  be : Below w0.heap.size w0 w
  obj : ∀ p ∈ L, w.heap[p.1]? = some p.2
theorem Bx.below {w0 w w' : World} {L : List (Nat × Obj)} (h : Bx w0 L w) (j : Below w.heap.size w w') : Bx w0 L w' := ⟨h.be.trans (j.mono h.be.size), fun p hp => obj_below j (h.obj p hp)⟩
theorem Bx.alloc {w0 w : World} {L : List (Nat × Obj)} (h : Bx w0 L w) (o : Obj) : Bx w0 ((w.heap.size, o) :: L) (w.alloc o) := by
  have j := h.below ((Below.refl _ w).alloc (Nat.le_refl _) o)
  refine ⟨j.be, fun p hp => ?_⟩
  rcases List.mem_cons.1 hp with rfl | hp
  · exact World.alloc_heap_new _ _
  · exact j.obj p hp
theorem Bx.ptr {w0 w : World} {L : List (Nat × Obj)} (h : Bx w0 L w) {g : Nat} {C : Array Value} {t : TypeId} (hg : (g, Obj.cells C t) ∈ L) (j : Nat) : w.cell? ⟨g, j, none⟩ = C[j]? := by
  have h1 := h.obj _ hg
  simp only [World.cell?, h1]; rfl
theorem Bx.sub {w0 w : World} {L L' : List (Nat × Obj)} (h : Bx w0 L w) (hs : ∀ p ∈ L', p ∈ L) : Bx w0 L' w := ⟨h.be, fun p hp => h.obj p (hs p hp)⟩
abbrev aOp (k q e n g x y : Int) : Array Value := #[.int .i64 k, .int .u64 q, .int .u64 e, .int .i64 n, .int .u64 g, .int .i64 x, .int .i64 y]
def pN (gL m : Nat) : Option Addr := if m = 0 then none else some ⟨gL, 0, none⟩
theorem nobody_at {w0 w : World} {L : List (Nat × Obj)} (h : Bx w0 L w) {gL m : Nat} (hg : (gL, Obj.cells Try.zeroCells67 67) ∈ L) : Nobody w (pN gL m) := by
  unfold pN
  split
  · exact Or.inl rfl
  · exact Or.inr ⟨gL, rfl, (h.ptr hg 0).trans ((zero_at 0 (by omega)).trans rfl)⟩
set_option maxRecDepth 100000 in
set_option maxHeartbeats 8000000 in
theorem LaneNobody_hand (k q ep n g x y : Int) (w : World) {p0 : Prop} (_ : p0) : Calls Try.prog 8 #[.agg (aOp k q ep n g x y)] w fun e w' => e = .returned (.bool true) ∧ Below w.heap.size w w' := by
  have H0 : Aside0 (Bx w [(w.heap.size + 1 + 1, .cells #[.pointer none, .pointer (some ⟨w.heap.size + 1, 0, none⟩)] 25), (w.heap.size + 1, .cells Try.zeroCells67 67), (w.heap.size, .cells (aOp k q ep n g x y) 40)] (((w.alloc (.cells (aOp k q ep n g x y) 40)).alloc (.cells Try.zeroCells67 67)).alloc (.cells #[.pointer none, .pointer (some ⟨w.heap.size + 1, 0, none⟩)] 25))) := by
    have h := (((⟨Below.refl _ _, by simp⟩ : Bx w [] w).alloc (.cells (aOp k q ep n g x y) 40)).alloc (.cells Try.zeroCells67 67)).alloc (.cells #[.pointer none, .pointer (some ⟨w.heap.size + 1, 0, none⟩)] 25)
    simp only [World.size_alloc] at h
    exact ⟨h⟩
  go_enter Try.func8, Try.ntmps8
  go_wp2
  change Code.wp Try.prog _ _ _ (((w.alloc (.cells (aOp k q ep n g x y) 40)).alloc (.cells Try.zeroCells67 67)).alloc (.cells #[.pointer none, .pointer (some ⟨w.heap.size + 1, 0, none⟩)] 25))
  obtain ⟨gO, hgO⟩ : ∃ g, w.heap.size = g := ⟨_, rfl⟩
  rw [hgO] at H0
  rw [show (some (⟨w.heap.size, 0, none⟩ : Addr)) = some ⟨gO, 0, none⟩ by rw [hgO], show (some (⟨w.heap.size + 1, 0, none⟩ : Addr)) = some ⟨gO + 1, 0, none⟩ by rw [hgO], show (some (⟨w.heap.size + 1 + 1, 0, none⟩ : Addr)) = some ⟨gO + 1 + 1, 0, none⟩ by rw [hgO]]
  generalize ((w.alloc (.cells (aOp k q ep n g x y) 40)).alloc (.cells Try.zeroCells67 67)).alloc (.cells #[.pointer none, .pointer (some ⟨gO + 1, 0, none⟩)] 25) = w1 at H0 ⊢
  clear hgO
  generalize gO + 1 + 1 = gS at H0 ⊢
  generalize gO + 1 = gL at H0 ⊢
  go_loopw [5, 24] (fun _ i wr => ∃ m : Nat, m ≤ 2 ∧ i = .int .i64 (m : Int) ∧ Aside0 (Bx w [(gS, .cells #[.pointer none, .pointer (some ⟨gL, 0, none⟩)] 25), (gL, .cells Try.zeroCells67 67), (gO, .cells (aOp k q ep n g x y) 40)] wr)) (fun _ i _ => 2 - (intOf i).toNat)
  case atStart => exact ⟨0, by omega, rfl, H0⟩
  case round =>
    clear H0
    obtain ⟨m, hm, rfl, HR⟩ := hrel
    by_cases h2 : m < 2
    · have e1 : decide ((m : Int) < 2) = true := decide_eq_true (by omega)
      have e2 : decide (m < 2) = true := decide_eq_true h2
      have hm0 : (0 : Int) ≤ (m : Int) := by omega
      have hm2 : (m : Int) < 2 := by omega
      have HM := Aside0.mk h2
      have cm : wr.cell? ⟨gS, m, none⟩ = some (.pointer (pN gL m)) := by
        rw [HR.out.ptr (g := gS) (t := 25) List.mem_cons_self]
        have : m = 0 ∨ m = 1 := by omega
        rcases this with rfl | rfl <;> rfl
      go_upto_region 5 with fail
      clear cm e1 e2 hm hm0 hm2
      go_upto_region 6 with (go_at_call 15; refine (Claim_no (pN gL m) _ (nobody_at HR.out (by simp))).mono ?_; rintro e2 w2 ⟨rfl, hb2⟩; have H1 := Aside0.mk ((HR.out.below hb2).alloc (.cells (aTick 0 0) 34)); clear hb2)
      generalize w2.alloc (.cells (aTick 0 0) 34) = w3 at H1 ⊢
      generalize w2.heap.size = g6 at H1 ⊢
      go_upto_region 7 with (go_at_call 17; refine (Take_no (pN gL m) _ (nobody_at H1.out (by simp))).mono ?_; rintro e2 w4 ⟨rfl, hb2⟩; have H2 := Aside0.mk (((H1.out.below hb2).alloc (.cells (aSlot 0 0) 36)).alloc (.cells (aTick 0 0) 34)); clear hb2)
      rw [show (w4.alloc (.cells (aSlot 0 0) 36)).heap.size = w4.heap.size + 1 from World.size_alloc _ _] at H2
      generalize (w4.alloc (.cells (aSlot 0 0) 36)).alloc (.cells (aTick 0 0) 34) = w5 at H2 ⊢
      generalize w4.heap.size + 1 = g9 at H2 ⊢
      generalize w4.heap.size = g8 at H2 ⊢
      clear H1
      have o1 := H2.out.ptr (g := gO) (C := aOp k q ep n g x y) (t := 40) (by simp) 1
      have o2 := H2.out.ptr (g := gO) (C := aOp k q ep n g x y) (t := 40) (by simp) 2
      change w5.cell? ⟨gO, 1, none⟩ = some (.int .u64 q) at o1
      change w5.cell? ⟨gO, 2, none⟩ = some (.int .u64 ep) at o2
      go_upto_region 8 with (go_at_call 19; refine (Retire_no (pN gL m) q ep _ (nobody_at H2.out (by simp))).mono ?_; rintro e2 w6 ⟨rfl, hb2⟩; have H3 := Aside0.mk ((H2.out.below hb2).alloc (.cells (aSlot 0 0) 36)); clear hb2)
      clear o1 o2 H2
      generalize w6.alloc (.cells (aSlot 0 0) 36) = w7 at H3 ⊢
      generalize w6.heap.size = g11 at H3 ⊢
      go_upto_region 9 with (go_at_call 18; refine (Reset_no (pN gL m) _ (nobody_at H3.out (by simp))).mono ?_; rintro e2 w8 ⟨rfl, hb2⟩; have H8 := Aside0.mk (H3.out.below hb2); clear hb2)
      clear H3 HR
      have hw : wrap64 ((m : Int) + 1) = (m : Int) + 1 := by unfold wrap64; omega
      go_wp2_with (first | (go_at_call 23; refine (First_no (pN gL m) _ (nobody_at H8.out (by simp))).mono ?_; rintro e2 w9 ⟨rfl, hb2⟩; have H9 := Aside0.mk (((H8.out.below hb2).alloc (.cells (aStamp 0 0) 38)).alloc (.cells (aTick 0 0) 34)); clear hb2; have o1 : (((w9.alloc (.cells (aStamp 0 0) 38)).alloc (.cells (aTick 0 0) 34))).cell? ⟨gO, 1, none⟩ = some (.int .u64 q) := H9.out.ptr (g := gO) (C := aOp k q ep n g x y) (t := 40) (by simp) 1; have o2 : (((w9.alloc (.cells (aStamp 0 0) 38)).alloc (.cells (aTick 0 0) 34))).cell? ⟨gO, 2, none⟩ = some (.int .u64 ep) := H9.out.ptr (g := gO) (C := aOp k q ep n g x y) (t := 40) (by simp) 2; have o3 : (((w9.alloc (.cells (aStamp 0 0) 38)).alloc (.cells (aTick 0 0) 34))).cell? ⟨gO, 3, none⟩ = some (.int .i64 n) := H9.out.ptr (g := gO) (C := aOp k q ep n g x y) (t := 40) (by simp) 3; have o4 : (((w9.alloc (.cells (aStamp 0 0) 38)).alloc (.cells (aTick 0 0) 34))).cell? ⟨gO, 4, none⟩ = some (.int .u64 g) := H9.out.ptr (g := gO) (C := aOp k q ep n g x y) (t := 40) (by simp) 4) | (go_at_call 16; refine (Lay_no (pN gL m) q ep n g _ (nobody_at H9.out (by simp))).mono ?_; rintro e2 w10 ⟨rfl, hb2⟩; have H10 := Aside0.mk (H9.out.below hb2); clear hb2; have o5 : (w10).cell? ⟨gO, 1, none⟩ = some (.int .u64 q) := H10.out.ptr (g := gO) (C := aOp k q ep n g x y) (t := 40) (by simp) 1; have o6 : (w10).cell? ⟨gO, 2, none⟩ = some (.int .u64 ep) := H10.out.ptr (g := gO) (C := aOp k q ep n g x y) (t := 40) (by simp) 2; have o7 : (w10).cell? ⟨gO, 5, none⟩ = some (.int .i64 x) := H10.out.ptr (g := gO) (C := aOp k q ep n g x y) (t := 40) (by simp) 5; have o8 : (w10).cell? ⟨gO, 6, none⟩ = some (.int .i64 y) := H10.out.ptr (g := gO) (C := aOp k q ep n g x y) (t := 40) (by simp) 6) | (go_at_call 20; refine (Publish_no (pN gL m) q ep x y _ (nobody_at H10.out (by simp))).mono ?_; rintro e2 w11 ⟨rfl, hb2⟩; have H11 := Aside0.mk (H10.out.below hb2); clear hb2; have o9 : (w11).cell? ⟨g6, 0, none⟩ = some (.int .u64 0) := H11.out.ptr (g := g6) (C := aTick 0 0) (t := 34) (by simp) 0; have o10 : (w11).cell? ⟨g6, 1, none⟩ = some (.int .u64 0) := H11.out.ptr (g := g6) (C := aTick 0 0) (t := 34) (by simp) 1; have o11 : (w11).cell? ⟨g9, 0, none⟩ = some (.int .u64 0) := H11.out.ptr (g := g9) (C := aTick 0 0) (t := 34) (by simp) 0; have o12 : (w11).cell? ⟨g9, 1, none⟩ = some (.int .u64 0) := H11.out.ptr (g := g9) (C := aTick 0 0) (t := 34) (by simp) 1; have o13 : (w11).cell? ⟨g8, 0, none⟩ = some (.int .i64 0) := H11.out.ptr (g := g8) (C := aSlot 0 0) (t := 36) (by simp) 0; have o14 : (w11).cell? ⟨g8, 1, none⟩ = some (.int .u64 0) := H11.out.ptr (g := g8) (C := aSlot 0 0) (t := 36) (by simp) 1; have o15 : (w11).cell? ⟨g11, 0, none⟩ = some (.int .i64 0) := H11.out.ptr (g := g11) (C := aSlot 0 0) (t := 36) (by simp) 0; have o16 : (w11).cell? ⟨g11, 1, none⟩ = some (.int .u64 0) := H11.out.ptr (g := g11) (C := aSlot 0 0) (t := 36) (by simp) 1; have o17 : (w11).cell? ⟨gO, 1, none⟩ = some (.int .u64 q) := H11.out.ptr (g := gO) (C := aOp k q ep n g x y) (t := 40) (by simp) 1; have o18 : (w11).cell? ⟨gO, 2, none⟩ = some (.int .u64 ep) := H11.out.ptr (g := gO) (C := aOp k q ep n g x y) (t := 40) (by simp) 2) | (go_at_call 21; refine (Ready_no (pN gL m) q ep _ (nobody_at H11.out (by simp))).mono ?_; rintro e2 w12 ⟨rfl, hb2⟩; have H12 := Aside0.mk (H11.out.below hb2); clear hb2) | (go_at_call 13; refine (State_no (pN gL m) _ (nobody_at H12.out (by simp))).mono ?_; rintro e2 w13 ⟨rfl, hb2⟩; have H13 := Aside0.mk (H12.out.below hb2); clear hb2))
      go_roundw
      case rel => exact ⟨m + 1, by have := HM.out; omega, by go_num, ⟨H13.out.sub (by simp)⟩⟩
      case measure => simp [intOf]; have := HM.out; omega
    · have e1 : decide ((m : Int) < 2) = false := decide_eq_false (by omega)
      have e2 : decide (m < 2) = false := decide_eq_false h2
      go_wp2_with (go_at_call 9; refine (awake_calls _).mono ?_; rintro e2 w2 ⟨rfl, hb2⟩; have H1 := Aside0.mk (HR.out.below hb2); clear hb2)
      go_ret
      exact ⟨rfl, H1.out.be⟩
end Go.Proofs.Ytglekbbdbnpohaa.QLn
