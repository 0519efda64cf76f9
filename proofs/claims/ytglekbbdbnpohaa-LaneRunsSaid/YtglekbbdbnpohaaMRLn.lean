/- Lane: the document's lane: First, Take, Retire. Written by a program of this repo (tools/gen_rlane4.py). -/
import Derived.Test.YtglekbbdbnpohaaLRLn
import Derived.Test.YtglekbbdbnpohaaRNLn
namespace Go.Proofs.Ytglekbbdbnpohaa.QLn
open Go.RowKit Go.Proofs.YtglekbbdbnpohaaW.PrintWords Go.Proofs.YtglekbbdbnpohaaW.PrintLast Go.Proofs.YtglekbbdbnpohaaW.PrintMore
set_option linter.unusedVariables false
set_option linter.unusedSimpArgs false
theorem RL.msgAt {w : World} {rb B n c g o : Nat} {r : RS} (h : RL w rb B r (.slice (some ⟨g, o, none⟩) n c)) {i : Nat} {m : Ms} (hm : r.L[i]? = some m) :
    (w.cell? ⟨g, o + i * 7, none⟩ = some (.int .u64 m.q) ∧ w.cell? ⟨g, o + i * 7 + 1, none⟩ = some (.int .i64 m.is) ∧ w.cell? ⟨g, o + i * 7 + 2, none⟩ = some (.bool m.laid) ∧ w.cell? ⟨g, o + i * 7 + 3, none⟩ = some (.int .i64 m.n) ∧ w.cell? ⟨g, o + i * 7 + 4, none⟩ = some (.int .u64 m.g) ∧ w.cell? ⟨g, o + i * 7 + 5, none⟩ = some (.int .i64 m.x) ∧ w.cell? ⟨g, o + i * 7 + 6, none⟩ = some (.int .i64 m.y)) := by
  obtain ⟨g', o', hA, hh⟩ := h.msg hm
  injection hA with hA
  injection hA with h1 h2
  subst h1 h2
  exact hh
theorem Rb.snd {w0 w : World} {rb B : Nat} {r : RS} {v : Value} {L : List (Nat × Obj)} {p1 : Nat × Obj} {g : Nat} {C C' : Array Value} {t : TypeId} (h : Rb w0 rb B r v (p1 :: (g, .cells C t) :: L) w) (hne : p1.1 ≠ g) (hL : ∀ p ∈ L, p.1 ≠ g) (o : Nat) (vs : List Value) (hC : QLn.setAll C o vs = C') : Rb w0 rb B r v (p1 :: (g, .cells C' t) :: L) (w.setCells g o vs) := by
  refine h.box g C t (by simp) o vs (fun p hp => ?_)
  rcases List.mem_cons.1 hp with rfl | hp
  · exact Or.inr ⟨by simp, hne⟩
  rcases List.mem_cons.1 hp with rfl | hp
  · exact Or.inl (by rw [hC])
  · exact Or.inr ⟨by simp [hp], hL p hp⟩
theorem Rb.thd {w0 w : World} {rb B : Nat} {r : RS} {v : Value} {L : List (Nat × Obj)} {p1 p2 : Nat × Obj} {g : Nat} {C C' : Array Value} {t : TypeId} (h : Rb w0 rb B r v (p1 :: p2 :: (g, .cells C t) :: L) w) (hne : p1.1 ≠ g) (hne2 : p2.1 ≠ g) (hL : ∀ p ∈ L, p.1 ≠ g) (o : Nat) (vs : List Value) (hC : QLn.setAll C o vs = C') : Rb w0 rb B r v (p1 :: p2 :: (g, .cells C' t) :: L) (w.setCells g o vs) := by
  refine h.box g C t (by simp) o vs (fun p hp => ?_)
  rcases List.mem_cons.1 hp with rfl | hp
  · exact Or.inr ⟨by simp, hne⟩
  rcases List.mem_cons.1 hp with rfl | hp
  · exact Or.inr ⟨by simp, hne2⟩
  rcases List.mem_cons.1 hp with rfl | hp
  · exact Or.inl (by rw [hC])
  · exact Or.inr ⟨by simp [hp], hL p hp⟩
theorem ms_blk {w : World} {g : Nat} {m : Ms} (h : w.heap[g]? = some (.cells (aMs m) 81 (0, 0))) : w.cell? ⟨g, 0, none⟩ = some (.int .u64 m.q) ∧ w.cell? ⟨g, 1, none⟩ = some (.int .i64 m.is) ∧ w.cell? ⟨g, 2, none⟩ = some (.bool m.laid) ∧ w.cell? ⟨g, 3, none⟩ = some (.int .i64 m.n) ∧ w.cell? ⟨g, 4, none⟩ = some (.int .u64 m.g) := by
  refine ⟨?_, ?_, ?_, ?_, ?_⟩ <;> (simp only [World.cell?, h]; rfl)
theorem ite_some' {p : Prop} [Decidable p] {a b : Addr} : (if p then some a else some b) = some (if p then a else b) := by split <;> rfl
theorem fM_take (l : List Ms) (i : Nat) : ∀ (j : Nat) u, (fM (l.take i))[j]? = some u → (fM l)[j]? = some u := by
  intro j u h
  have e : fM l = fM (l.take i) ++ fM (l.drop i) := by rw [← fM_append, List.take_append_drop]
  rw [e, List.getElem?_append_left (List.getElem?_eq_some_iff.1 h).1]
  exact h
theorem fM_drop (l : List Ms) (i : Nat) (hi : i ≤ l.length) : ∀ (j : Nat) u, (fM (l.drop i))[j]? = some u → (fM l)[i * 7 + j]? = some u := by
  intro j u h
  have e : fM l = fM (l.take i) ++ fM (l.drop i) := by rw [← fM_append, List.take_append_drop]
  have hl : (fM (l.take i)).length = i * 7 := by rw [fM_len, List.length_take, Nat.min_eq_left hi]
  rw [e, List.getElem?_append_right (by omega), hl, Nat.add_sub_cancel_left]
  exact h
theorem src_take {w : World} {A : Option Addr} {l : List Ms} (h : SrcAt w A (fM l)) (i : Nat) : SrcAt w A (fM (l.take i)) := fun j u hj => h j u (fM_take l i j u hj)
theorem src_drop {w : World} {g o c i : Nat} {l : List Ms} (h : SrcAt w (some ⟨g, o, none⟩) (fM l)) (hi : i + 1 ≤ l.length ∧ l.length ≤ c) : ∀ (j : Nat) u, (fM (l.drop (i + 1)))[j]? = some u → w.cell? ((if c = i + 1 then (⟨g, o, none⟩ : Addr) else ⟨g, o + (i + 1) * 7, none⟩).add j) = some u := by
  intro j u hj
  by_cases hc : c = i + 1
  · have h0 : l.drop (i + 1) = [] := List.drop_eq_nil_of_le (by omega)
    rw [h0] at hj
    simp [fM] at hj
  · rw [if_neg hc]
    obtain ⟨ad, e1, e2⟩ := h _ u (fM_drop l (i + 1) hi.1 j u hj)
    cases e1
    rw [Addr.add_lit] at e2 ⊢
    rw [Nat.add_assoc]
    exact e2
def FirE (r : RS) (rb B : Nat) (v : Value) (w : World) (e : Ending) (w' : World) : Prop :=
    ∃ res : Int, Fnd r.L (fun m => m.is = 2) res ∧ ((res = -1 ∧ e = .returned (.tuple #[.agg (aStamp 0 0), .agg (aTick 0 0), .bool false]) ∧ Rb w rb B r v [] w') ∨ (∃ (i : Nat) (m : Ms), res = (i : Int) ∧ r.L[i]? = some m ∧ e = .returned (.tuple #[.agg (aStamp m.x m.y), .agg (aTick m.q r.epoch), .bool true]) ∧ Rb w rb B r v [] w'))
set_option maxRecDepth 100000 in
set_option maxHeartbeats 4000000 in
theorem RFirst_calls {w : World} {rb B : Nat} {r : RS} {v : Value} (h : RL w rb B r v) : Calls Try.prog 29 #[.pointer (some ⟨rb, 0, none⟩)] w fun e w' => FirE r rb B v w e w' := by
  obtain ⟨A, c, rfl, hc⟩ := h.form
  have HB0 := Aside0.mk ((Rb.start h).alloc2 (.cells (aStamp 0 0) 38) (.cells (aTick 0 0) 34))
  clear h
  go_enter Try.func29, Try.ntmps29
  go_upto_region 1 with fail
  generalize hw1 : (w.alloc (.cells (aStamp 0 0) 38)).alloc (.cells (aTick 0 0) 34) = w1 at HB0 ⊢
  clear hw1
  go_upto_region 2 with (go_at_call 43; refine (first_calls HB0.out.rl).mono ?_; rintro e w2 ⟨res, rfl, hfnd, hb2⟩; have HFN := Aside0.mk hfnd; have HB2 := Aside0.mk (HB0.out.below hb2); clear hfnd hb2)
  clear HB0
  rcases HFN.out with ⟨i, hil, rfl, ⟨m, hm, -⟩, -⟩ | ⟨rfl, -⟩
  · have HE := Aside0.mk hm
    clear hm
    have b1 : (0 : Int) ≤ (i : Int) := Int.natCast_nonneg i
    have b2 : (i : Int) < (r.L.length : Int) := Int.ofNat_lt.2 hil
    have b3 : decide ((i : Int) < 0) = false := decide_eq_false (by omega)
    have ht : ((i : Int)).toNat = i := Int.toNat_natCast i
    clear hil
    obtain ⟨gT, oT, rfl, -⟩ := HB2.out.rl.msg HE.out
    go_upto_region 4 with fail
    refine wp_region_held_drew (S := fun w' => RL w' rb B r (.slice (some ⟨gT, oT, none⟩) r.L.length c)) (by kernel_rfl) (HB2.out.rl.below (Below.refl _ _).drew) (fun hHeld => ?_)
    refine take_at (i := 0) (v := _) 12 rfl rfl (by kernel_rfl) (by kernel_rfl) (by kernel_rfl) (fun _ _ _ h => h) (Or.inl ⟨by rfl, fun w' hW => by have hq0 := hW.cells.2.2.2.1; have hq1 := hW.cells.2.2.2.2; have hq2 := (hW.msgAt HE.out).1; have hq3 := (hW.msgAt HE.out).2.2.2.2.2.1; have hq4 := (hW.msgAt HE.out).2.2.2.2.2.2; first | (go_simp; done) | (go_simp; with_reducible rfl) | (go_simp; rfl)⟩) hHeld ?_
    try simp only [Act.put, List.setIfInBounds_toArray, List.set_cons_zero, List.set_cons_succ]
    refine take_at (i := 1) (v := _) 13 rfl rfl (by kernel_rfl) (by kernel_rfl) (by kernel_rfl) (fun _ _ _ h => h) (Or.inl ⟨by rfl, fun w' hW => by have hq0 := hW.cells.2.2.2.1; have hq1 := hW.cells.2.2.2.2; have hq2 := (hW.msgAt HE.out).1; have hq3 := (hW.msgAt HE.out).2.2.2.2.2.1; have hq4 := (hW.msgAt HE.out).2.2.2.2.2.2; first | (go_simp; done) | (go_simp; with_reducible rfl) | (go_simp; rfl)⟩) hHeld ?_
    try simp only [Act.put, List.setIfInBounds_toArray, List.set_cons_zero, List.set_cons_succ]
    refine take_at (i := 2) (v := _) 14 rfl rfl (by kernel_rfl) (by kernel_rfl) (by kernel_rfl) (fun _ _ _ h => h) (Or.inl ⟨by rfl, fun w' hW => by have hq0 := hW.cells.2.2.2.1; have hq1 := hW.cells.2.2.2.2; have hq2 := (hW.msgAt HE.out).1; have hq3 := (hW.msgAt HE.out).2.2.2.2.2.1; have hq4 := (hW.msgAt HE.out).2.2.2.2.2.2; first | (go_simp; done) | (go_simp; with_reducible rfl) | (go_simp; rfl)⟩) hHeld ?_
    try simp only [Act.put, List.setIfInBounds_toArray, List.set_cons_zero, List.set_cons_succ]
    refine take_at (i := 3) (v := _) 15 rfl rfl (by kernel_rfl) (by kernel_rfl) (by kernel_rfl) (fun _ _ _ h => h) (Or.inl ⟨by rfl, fun w' hW => by have hq0 := hW.cells.2.2.2.1; have hq1 := hW.cells.2.2.2.2; have hq2 := (hW.msgAt HE.out).1; have hq3 := (hW.msgAt HE.out).2.2.2.2.2.1; have hq4 := (hW.msgAt HE.out).2.2.2.2.2.2; first | (go_simp; done) | (go_simp; with_reducible rfl) | (go_simp; rfl)⟩) hHeld ?_
    try simp only [Act.put, List.setIfInBounds_toArray, List.set_cons_zero, List.set_cons_succ]
    refine take_at (i := 4) (v := _) 16 rfl rfl (by kernel_rfl) (by kernel_rfl) (by kernel_rfl) (fun _ _ _ h => h) (Or.inl ⟨by rfl, fun w' hW => by have hq0 := hW.cells.2.2.2.1; have hq1 := hW.cells.2.2.2.2; have hq2 := (hW.msgAt HE.out).1; have hq3 := (hW.msgAt HE.out).2.2.2.2.2.1; have hq4 := (hW.msgAt HE.out).2.2.2.2.2.2; first | (go_simp; done) | (go_simp; with_reducible rfl) | (go_simp; rfl)⟩) hHeld ?_
    try simp only [Act.put, List.setIfInBounds_toArray, List.set_cons_zero, List.set_cons_succ]
    refine take_at (i := 5) (v := _) 17 rfl rfl (by kernel_rfl) (by kernel_rfl) (by kernel_rfl) (fun _ _ _ h => h) (Or.inl ⟨by rfl, fun w' hW => by have hq0 := hW.cells.2.2.2.1; have hq1 := hW.cells.2.2.2.2; have hq2 := (hW.msgAt HE.out).1; have hq3 := (hW.msgAt HE.out).2.2.2.2.2.1; have hq4 := (hW.msgAt HE.out).2.2.2.2.2.2; first | (go_simp; done) | (go_simp; with_reducible rfl) | (go_simp; rfl)⟩) hHeld ?_
    try simp only [Act.put, List.setIfInBounds_toArray, List.set_cons_zero, List.set_cons_succ]
    refine take_at (i := 6) (v := _) 18 rfl rfl (by kernel_rfl) (by kernel_rfl) (by kernel_rfl) (fun _ _ _ h => h) (Or.inl ⟨by rfl, fun w' hW => by have hq0 := hW.cells.2.2.2.1; have hq1 := hW.cells.2.2.2.2; have hq2 := (hW.msgAt HE.out).1; have hq3 := (hW.msgAt HE.out).2.2.2.2.2.1; have hq4 := (hW.msgAt HE.out).2.2.2.2.2.2; first | (go_simp; done) | (go_simp; with_reducible rfl) | (go_simp; rfl)⟩) hHeld ?_
    try simp only [Act.put, List.setIfInBounds_toArray, List.set_cons_zero, List.set_cons_succ]
    refine take_at (i := 7) (v := _) 19 rfl rfl (by kernel_rfl) (by kernel_rfl) (by kernel_rfl) (fun _ _ _ h => h) (Or.inl ⟨by rfl, fun w' hW => by have hq0 := hW.cells.2.2.2.1; have hq1 := hW.cells.2.2.2.2; have hq2 := (hW.msgAt HE.out).1; have hq3 := (hW.msgAt HE.out).2.2.2.2.2.1; have hq4 := (hW.msgAt HE.out).2.2.2.2.2.2; first | (go_simp; done) | (go_simp; with_reducible rfl) | (go_simp; rfl)⟩) hHeld ?_
    try simp only [Act.put, List.setIfInBounds_toArray, List.set_cons_zero, List.set_cons_succ]
    refine take_at (i := 8) (v := _) 20 rfl rfl (by kernel_rfl) (by kernel_rfl) (by kernel_rfl) (fun _ _ _ h => h) (Or.inl ⟨by rfl, fun w' hW => by have hq0 := hW.cells.2.2.2.1; have hq1 := hW.cells.2.2.2.2; have hq2 := (hW.msgAt HE.out).1; have hq3 := (hW.msgAt HE.out).2.2.2.2.2.1; have hq4 := (hW.msgAt HE.out).2.2.2.2.2.2; first | (go_simp; done) | (go_simp; with_reducible rfl) | (go_simp; rfl)⟩) hHeld ?_
    try simp only [Act.put, List.setIfInBounds_toArray, List.set_cons_zero, List.set_cons_succ]
    refine take_at (i := 9) (v := _) 21 rfl rfl (by kernel_rfl) (by kernel_rfl) (by kernel_rfl) (fun _ _ _ h => h) (Or.inl ⟨by rfl, fun w' hW => by have hq0 := hW.cells.2.2.2.1; have hq1 := hW.cells.2.2.2.2; have hq2 := (hW.msgAt HE.out).1; have hq3 := (hW.msgAt HE.out).2.2.2.2.2.1; have hq4 := (hW.msgAt HE.out).2.2.2.2.2.2; first | (go_simp; done) | (go_simp; with_reducible rfl) | (go_simp; rfl)⟩) hHeld ?_
    try simp only [Act.put, List.setIfInBounds_toArray, List.set_cons_zero, List.set_cons_succ]
    refine take_at (i := 10) (v := _) 22 rfl rfl (by kernel_rfl) (by kernel_rfl) (by kernel_rfl) (fun _ _ _ h => h) (Or.inl ⟨by rfl, fun w' hW => by have hq0 := hW.cells.2.2.2.1; have hq1 := hW.cells.2.2.2.2; have hq2 := (hW.msgAt HE.out).1; have hq3 := (hW.msgAt HE.out).2.2.2.2.2.1; have hq4 := (hW.msgAt HE.out).2.2.2.2.2.2; first | (go_simp; done) | (go_simp; with_reducible rfl) | (go_simp; rfl)⟩) hHeld ?_
    try simp only [Act.put, List.setIfInBounds_toArray, List.set_cons_zero, List.set_cons_succ]
    refine take_at (i := 11) (v := _) 23 rfl rfl (by kernel_rfl) (by kernel_rfl) (by kernel_rfl) (fun _ _ _ h => h) (Or.inl ⟨by rfl, fun w' hW => by have hq0 := hW.cells.2.2.2.1; have hq1 := hW.cells.2.2.2.2; have hq2 := (hW.msgAt HE.out).1; have hq3 := (hW.msgAt HE.out).2.2.2.2.2.1; have hq4 := (hW.msgAt HE.out).2.2.2.2.2.2; first | (go_simp; done) | (go_simp; with_reducible rfl) | (go_simp; rfl)⟩) hHeld ?_
    try simp only [Act.put, List.setIfInBounds_toArray, List.set_cons_zero, List.set_cons_succ]
    refine take_at (i := 12) (v := _) 24 rfl rfl (by kernel_rfl) (by kernel_rfl) (by kernel_rfl) (fun _ _ _ h => h) (Or.inl ⟨by rfl, fun w' hW => by have hq0 := hW.cells.2.2.2.1; have hq1 := hW.cells.2.2.2.2; have hq2 := (hW.msgAt HE.out).1; have hq3 := (hW.msgAt HE.out).2.2.2.2.2.1; have hq4 := (hW.msgAt HE.out).2.2.2.2.2.2; first | (go_simp; done) | (go_simp; with_reducible rfl) | (go_simp; rfl)⟩) hHeld ?_
    try simp only [Act.put, List.setIfInBounds_toArray, List.set_cons_zero, List.set_cons_succ]
    refine take_at (i := 13) (v := _) 25 rfl rfl (by kernel_rfl) (by kernel_rfl) (by kernel_rfl) (fun _ _ _ h => h) (Or.inl ⟨by rfl, fun w' hW => by have hq0 := hW.cells.2.2.2.1; have hq1 := hW.cells.2.2.2.2; have hq2 := (hW.msgAt HE.out).1; have hq3 := (hW.msgAt HE.out).2.2.2.2.2.1; have hq4 := (hW.msgAt HE.out).2.2.2.2.2.2; first | (go_simp; done) | (go_simp; with_reducible rfl) | (go_simp; rfl)⟩) hHeld ?_
    try simp only [Act.put, List.setIfInBounds_toArray, List.set_cons_zero, List.set_cons_succ]
    refine take_at (i := 14) (v := _) 26 rfl rfl (by kernel_rfl) (by kernel_rfl) (by kernel_rfl) (fun _ _ _ h => h) (Or.inl ⟨by rfl, fun w' hW => by have hq0 := hW.cells.2.2.2.1; have hq1 := hW.cells.2.2.2.2; have hq2 := (hW.msgAt HE.out).1; have hq3 := (hW.msgAt HE.out).2.2.2.2.2.1; have hq4 := (hW.msgAt HE.out).2.2.2.2.2.2; first | (go_simp; done) | (go_simp; with_reducible rfl) | (go_simp; rfl)⟩) hHeld ?_
    try simp only [Act.put, List.setIfInBounds_toArray, List.set_cons_zero, List.set_cons_succ]
    refine take_at (i := 15) (v := _) 27 rfl rfl (by kernel_rfl) (by kernel_rfl) (by kernel_rfl) (fun _ _ _ h => h) (Or.inl ⟨by rfl, fun w' hW => by have hq0 := hW.cells.2.2.2.1; have hq1 := hW.cells.2.2.2.2; have hq2 := (hW.msgAt HE.out).1; have hq3 := (hW.msgAt HE.out).2.2.2.2.2.1; have hq4 := (hW.msgAt HE.out).2.2.2.2.2.2; first | (go_simp; done) | (go_simp; with_reducible rfl) | (go_simp; rfl)⟩) hHeld ?_
    try simp only [Act.put, List.setIfInBounds_toArray, List.set_cons_zero, List.set_cons_succ]
    refine take_at (i := 16) (v := _) 28 rfl rfl (by kernel_rfl) (by kernel_rfl) (by kernel_rfl) (fun _ _ _ h => h) (Or.inl ⟨by rfl, fun w' hW => by have hq0 := hW.cells.2.2.2.1; have hq1 := hW.cells.2.2.2.2; have hq2 := (hW.msgAt HE.out).1; have hq3 := (hW.msgAt HE.out).2.2.2.2.2.1; have hq4 := (hW.msgAt HE.out).2.2.2.2.2.2; first | (go_simp; done) | (go_simp; with_reducible rfl) | (go_simp; rfl)⟩) hHeld ?_
    try simp only [Act.put, List.setIfInBounds_toArray, List.set_cons_zero, List.set_cons_succ]
    refine take_at (i := 17) (v := _) 29 rfl rfl (by kernel_rfl) (by kernel_rfl) (by kernel_rfl) (fun _ _ _ h => h) (Or.inl ⟨by rfl, fun w' hW => by have hq0 := hW.cells.2.2.2.1; have hq1 := hW.cells.2.2.2.2; have hq2 := (hW.msgAt HE.out).1; have hq3 := (hW.msgAt HE.out).2.2.2.2.2.1; have hq4 := (hW.msgAt HE.out).2.2.2.2.2.2; first | (go_simp; done) | (go_simp; with_reducible rfl) | (go_simp; rfl)⟩) hHeld ?_
    try simp only [Act.put, List.setIfInBounds_toArray, List.set_cons_zero, List.set_cons_succ]
    refine take_at (i := 18) (v := _) 30 rfl rfl (by kernel_rfl) (by kernel_rfl) (by kernel_rfl) (fun _ _ _ h => h) (Or.inl ⟨by rfl, fun w' hW => by have hq0 := hW.cells.2.2.2.1; have hq1 := hW.cells.2.2.2.2; have hq2 := (hW.msgAt HE.out).1; have hq3 := (hW.msgAt HE.out).2.2.2.2.2.1; have hq4 := (hW.msgAt HE.out).2.2.2.2.2.2; first | (go_simp; done) | (go_simp; with_reducible rfl) | (go_simp; rfl)⟩) hHeld ?_
    try simp only [Act.put, List.setIfInBounds_toArray, List.set_cons_zero, List.set_cons_succ]
    refine take_at (i := 19) (v := _) 31 rfl rfl (by kernel_rfl) (by kernel_rfl) (by kernel_rfl) (fun _ _ _ h => h) (Or.inl ⟨by rfl, fun w' hW => by have hq0 := hW.cells.2.2.2.1; have hq1 := hW.cells.2.2.2.2; have hq2 := (hW.msgAt HE.out).1; have hq3 := (hW.msgAt HE.out).2.2.2.2.2.1; have hq4 := (hW.msgAt HE.out).2.2.2.2.2.2; first | (go_simp; done) | (go_simp; with_reducible rfl) | (go_simp; rfl)⟩) hHeld ?_
    try simp only [Act.put, List.setIfInBounds_toArray, List.set_cons_zero, List.set_cons_succ]
    refine take_at (i := 20) (v := _) 32 rfl rfl (by kernel_rfl) (by kernel_rfl) (by kernel_rfl) (fun _ _ _ h => h) (Or.inl ⟨by rfl, fun w' hW => by have hq0 := hW.cells.2.2.2.1; have hq1 := hW.cells.2.2.2.2; have hq2 := (hW.msgAt HE.out).1; have hq3 := (hW.msgAt HE.out).2.2.2.2.2.1; have hq4 := (hW.msgAt HE.out).2.2.2.2.2.2; first | (go_simp; done) | (go_simp; with_reducible rfl) | (go_simp; rfl)⟩) hHeld ?_
    try simp only [Act.put, List.setIfInBounds_toArray, List.set_cons_zero, List.set_cons_succ]
    have HB3 := Aside0.mk (HB2.out.below (Below.refl _ _).drew)
    clear hHeld
    generalize w2.drew = w3 at HB3 ⊢
    refine wpAnyH_ready (rs := [21]) (by kernel_rfl) (by simp) ?_
    refine AllReadyH.cons rfl (fun K hK => ?_) AllReadyH.nil
    rw [if_pos (by rfl)]
    refine store_at rfl 38 (.tmp 2) (.tmp 19) rfl w.heap.size 0 (aStamp m.x m.y) rfl rfl (there_of_block (HB3.out.blk (g := w.heap.size) (C := aStamp 0 0) (t := 38) (by simp)) 0 2 (by simp [aStamp])) (by kernel_rfl) (by simp [aStamp, Value.oneCell']) ?_
    have HB4 : Aside0 (Rb w rb B r (.slice (some ⟨gT, oT, none⟩) r.L.length c) [(w.heap.size + 1, .cells (aTick 0 0) 34), (w.heap.size, .cells (aStamp m.x m.y) 38)] (w3.setCells w.heap.size 0 (aStamp m.x m.y).toList)) := ⟨HB3.out.snd (by simp) (fun p hp => by cases hp) 0 _ rfl⟩
    generalize w3.setCells w.heap.size 0 (aStamp m.x m.y).toList = w4 at HB4 ⊢
    refine hK.out _ _ HB4.out.rl (fun hHeld => ?_)
    clear hK K
    try simp only [Act.put, List.setIfInBounds_toArray, List.set_cons_zero, List.set_cons_succ]
    clear hHeld
    refine wpAnyH_ready (rs := [22]) (by kernel_rfl) (by simp) ?_
    refine AllReadyH.cons rfl (fun K hK => ?_) AllReadyH.nil
    rw [if_pos (by rfl)]
    refine store_at rfl 34 (.tmp 3) (.tmp 32) rfl (w.heap.size + 1) 0 (aTick m.q r.epoch) rfl rfl (there_of_block (HB4.out.blk (g := w.heap.size + 1) (C := aTick 0 0) (t := 34) (by simp)) 0 2 (by simp [aTick])) (by kernel_rfl) (by simp [aTick, Value.oneCell']) ?_
    have HB5 : Aside0 (Rb w rb B r (.slice (some ⟨gT, oT, none⟩) r.L.length c) [(w.heap.size + 1, .cells (aTick m.q r.epoch) 34), (w.heap.size, .cells (aStamp m.x m.y) 38)] (w4.setCells (w.heap.size + 1) 0 (aTick m.q r.epoch).toList)) := ⟨HB4.out.head (fun p hp => by simp only [List.mem_cons, List.not_mem_nil, or_false] at hp; subst hp; simp) 0 _ rfl⟩
    generalize w4.setCells (w.heap.size + 1) 0 (aTick m.q r.epoch).toList = w5 at HB5 ⊢
    refine hK.out _ _ HB5.out.rl (fun hHeld => ?_)
    clear hK K
    try simp only [Act.put, List.setIfInBounds_toArray, List.set_cons_zero, List.set_cons_succ]
    refine take_at (i := 23) (v := _) 4 rfl rfl (by kernel_rfl) (by kernel_rfl) (by kernel_rfl) (fun _ _ _ h => h) (Or.inl ⟨by rfl, fun w' hW => by have hq0 := hW.cells.2.2.2.1; have hq1 := hW.cells.2.2.2.2; have hq2 := (hW.msgAt HE.out).1; have hq3 := (hW.msgAt HE.out).2.2.2.2.2.1; have hq4 := (hW.msgAt HE.out).2.2.2.2.2.2; first | (go_simp; done) | (go_simp; with_reducible rfl) | (go_simp; rfl)⟩) hHeld ?_
    try simp only [Act.put, List.setIfInBounds_toArray, List.set_cons_zero, List.set_cons_succ]
    refine wpAnyH_done (by kernel_rfl) ?_ _
    clear hHeld
    go_wp2
    exact bodyPost_ret (res_cct (t := 38) (t2 := 34) rfl rfl rfl rfl (HB5.out.blk (g := w.heap.size) (C := aStamp m.x m.y) (t := 38) (by simp)) (HB5.out.blk (g := w.heap.size + 1) (C := aTick m.q r.epoch) (t := 34) (by simp)) Try.underlying38 rfl (by kernel_rfl) Try.underlying34 rfl (by kernel_rfl)) rfl ⟨_, HFN.out, Or.inr ⟨i, m, rfl, HE.out, rfl, HB5.out.nil⟩⟩
  · go_wp2_with (first | ((with_reducible refine gate_store (t := 38) (p := 2) rfl ?_); refine store_blk rfl 38 (.tmp 2) (.tmp 10) rfl (w.heap.size) 0 (aStamp 0 0) (aStamp 0 0) 38 rfl rfl (HB2.out.blk (g := w.heap.size) (C := (aStamp 0 0)) (t := 38) (by simp)) (by simp [aMs, aStamp, aSlot, aTick]) (by kernel_rfl) (by simp [aMs, aStamp, aSlot, aTick, Value.oneCell']) ?_; intro w3 hww _; have HB3 : Aside0 (Rb w rb B r (.slice A r.L.length c) [(w.heap.size + 1, .cells (aTick 0 0) 34), (w.heap.size, .cells (aStamp 0 0) 38)] w3) := ⟨by rw [hww]; exact HB2.out.snd (by simp) (fun p hp => by cases hp) 0 _ rfl⟩; clear hww) | ((with_reducible refine gate_store (t := 34) (p := 3) rfl ?_); refine store_blk rfl 34 (.tmp 3) (.tmp 11) rfl ((w.heap.size + 1)) 0 (aTick 0 0) (aTick 0 0) 34 rfl rfl (HB3.out.blk (g := (w.heap.size + 1)) (C := (aTick 0 0)) (t := 34) (by simp)) (by simp [aMs, aStamp, aSlot, aTick]) (by kernel_rfl) (by simp [aMs, aStamp, aSlot, aTick, Value.oneCell']) ?_; intro w4 hww _; have HB4 : Aside0 (Rb w rb B r (.slice A r.L.length c) [(w.heap.size + 1, .cells (aTick 0 0) 34), (w.heap.size, .cells (aStamp 0 0) 38)] w4) := ⟨by rw [hww]; exact HB3.out.head (fun p hp => by simp only [List.mem_cons, List.not_mem_nil, or_false] at hp; subst hp; simp) 0 _ rfl⟩; clear hww))
    exact bodyPost_ret (res_cct (t := 38) (t2 := 34) rfl rfl rfl rfl (HB4.out.blk (g := w.heap.size) (C := aStamp 0 0) (t := 38) (by simp)) (HB4.out.blk (g := w.heap.size + 1) (C := aTick 0 0) (t := 34) (by simp)) Try.underlying38 rfl (by kernel_rfl) Try.underlying34 rfl (by kernel_rfl)) rfl ⟨_, HFN.out, Or.inl ⟨rfl, rfl, HB4.out.nil⟩⟩
def TakE (r : RS) (rb B : Nat) (v : Value) (w : World) (e : Ending) (w' : World) : Prop :=
    ∃ res : Int, Fnd r.L (fun m => m.is = 2) res ∧ ((res = -1 ∧ e = .returned (.tuple #[.agg (aSlot 0 0), .agg (aTick 0 0), .int .i64 82]) ∧ Rb w rb B r v [] w') ∨ (∃ (i : Nat) (m : Ms) (v' : Value), res = (i : Int) ∧ r.L[i]? = some m ∧ e = .returned (.tuple #[.agg (aSlot m.n m.g), .agg (aTick m.q r.epoch), .int .i64 0]) ∧ Rb w rb B { r with L := r.L.set i { m with is := 3 } } v' [] w'))
set_option maxRecDepth 100000 in
set_option maxHeartbeats 4000000 in
theorem RTake_calls {w : World} {rb B : Nat} {r : RS} {v : Value} (h : RL w rb B r v) : Calls Try.prog 30 #[.pointer (some ⟨rb, 0, none⟩)] w fun e w' => TakE r rb B v w e w' := by
  obtain ⟨A, c, rfl, hc⟩ := h.form
  have HB0 := Aside0.mk ((Rb.start h).alloc2 (.cells (aSlot 0 0) 36) (.cells (aTick 0 0) 34))
  clear h
  go_enter Try.func30, Try.ntmps30
  go_upto_region 1 with fail
  generalize hw1 : (w.alloc (.cells (aSlot 0 0) 36)).alloc (.cells (aTick 0 0) 34) = w1 at HB0 ⊢
  clear hw1
  go_upto_region 2 with (go_at_call 43; refine (first_calls HB0.out.rl).mono ?_; rintro e w2 ⟨res, rfl, hfnd, hb2⟩; have HFN := Aside0.mk hfnd; have HB2 := Aside0.mk (HB0.out.below hb2); clear hfnd hb2)
  clear HB0
  rcases HFN.out with ⟨i, hil, rfl, ⟨m, hm, -⟩, -⟩ | ⟨rfl, -⟩
  · have HE := Aside0.mk hm
    clear hm
    have b1 : (0 : Int) ≤ (i : Int) := Int.natCast_nonneg i
    have b2 : (i : Int) < (r.L.length : Int) := Int.ofNat_lt.2 hil
    have b3 : decide ((i : Int) < 0) = false := decide_eq_false (by omega)
    have ht : ((i : Int)).toNat = i := Int.toNat_natCast i
    clear hil
    have c4 := HB2.out.rl.cells.2.2.2.2
    obtain ⟨gT, oT, rfl, m0, m1, m2, m3, m4, m5, m6⟩ := HB2.out.rl.msg HE.out
    go_upto_region 5 with fail
    clear m0 m1 m2 m3 m4 m5 m6 c4
    have HB3 := Aside0.mk (HB2.out.alloc (.cells (aMs m) 81))
    have HFR := Aside0.mk HB2.out.fresh
    try change Code.wp _ _ _ _ (w2.alloc (.cells (aMs m) 81))
    generalize w2.alloc (.cells (aMs m) 81) = w3 at HB3 ⊢
    generalize w2.heap.size = g8 at HB3 HFR ⊢
    have HNa : Aside0 (g8 ≠ w.heap.size) := ⟨fun e => HFR.out _ (List.mem_cons_of_mem _ List.mem_cons_self) e.symm⟩
    have HNb : Aside0 (g8 ≠ w.heap.size + 1) := ⟨fun e => HFR.out _ List.mem_cons_self e.symm⟩
    have x1 := HB3.out.ptr (g := g8) (C := aMs m) (t := 81) (by simp) 1
    obtain ⟨x1, y1⟩ := x1
    replace x1 : w3.cell? ⟨g8, 1, none⟩ = some (.int .i64 m.is) := x1
    go_upto_region 6 with fail
    clear x1 y1
    have HB4 : Aside0 (Rb w rb B r (.slice (some ⟨gT, oT, none⟩) r.L.length c) [(g8, .cells (aMs { m with is := 3 }) 81), (w.heap.size + 1, .cells (aTick 0 0) 34), (w.heap.size, .cells (aSlot 0 0) 36)] (w3.setCell ⟨g8, 1, none⟩ (.int .i64 3))) := ⟨HB3.out.head HFR.out 1 [.int .i64 3] rfl⟩
    generalize w3.setCell ⟨g8, 1, none⟩ (.int .i64 3) = w4 at HB4 ⊢
    have l0 : w4.cell? ⟨g8, 0, none⟩ = some (.int .u64 ({ m with is := 3 }).q) := (HB4.out.ptr (g := g8) (C := aMs { m with is := 3 }) (t := 81) (by simp) 0).1
    have l1 : w4.cell? ⟨g8, 1, none⟩ = some (.int .i64 ({ m with is := 3 }).is) := (HB4.out.ptr (g := g8) (C := aMs { m with is := 3 }) (t := 81) (by simp) 1).1
    have l2 : w4.cell? ⟨g8, 2, none⟩ = some (.bool ({ m with is := 3 }).laid) := (HB4.out.ptr (g := g8) (C := aMs { m with is := 3 }) (t := 81) (by simp) 2).1
    have l3 : w4.cell? ⟨g8, 3, none⟩ = some (.int .i64 ({ m with is := 3 }).n) := (HB4.out.ptr (g := g8) (C := aMs { m with is := 3 }) (t := 81) (by simp) 3).1
    have l4 : w4.cell? ⟨g8, 4, none⟩ = some (.int .u64 ({ m with is := 3 }).g) := (HB4.out.ptr (g := g8) (C := aMs { m with is := 3 }) (t := 81) (by simp) 4).1
    have l5 : w4.cell? ⟨g8, 5, none⟩ = some (.int .i64 ({ m with is := 3 }).x) := (HB4.out.ptr (g := g8) (C := aMs { m with is := 3 }) (t := 81) (by simp) 5).1
    have l6 : w4.cell? ⟨g8, 6, none⟩ = some (.int .i64 ({ m with is := 3 }).y) := (HB4.out.ptr (g := g8) (C := aMs { m with is := 3 }) (t := 81) (by simp) 6).1
    go_upto_region 7 with (go_at_call 42; refine (set_calls HB4.out.rl i { m with is := 3 } (List.getElem?_eq_some_iff.1 HE.out).1).mono ?_; rintro e w6 ⟨rfl, v', hrn⟩; have HB6 := Aside0.mk (HB4.out.call hrn); clear hrn)
    clear l0 l1 l2 l3 l4 l5 l6
    refine wp_region_held_drew (S := fun w' => RL w' rb B { r with L := r.L.set i { m with is := 3 } } v' ∧ w'.heap[g8]? = some (.cells (aMs { m with is := 3 }) 81 (0, 0))) (by kernel_rfl) ⟨(HB6.out.below (Below.refl _ _).drew).rl, (HB6.out.below (Below.refl _ _).drew).blk (g := g8) (C := aMs { m with is := 3 }) (t := 81) (by simp)⟩ (fun hHeld => ?_)
    refine take_at (i := 0) (v := _) 25 rfl rfl (by kernel_rfl) (by kernel_rfl) (by kernel_rfl) (fun _ _ _ h => h) (Or.inl ⟨by rfl, fun w' hW => by have hq0 := hW.1.cells.2.2.2.1; have hq1 := (ms_blk hW.2).1; have hq2 := (ms_blk hW.2).2.2.2.1; have hq3 := (ms_blk hW.2).2.2.2.2; first | (go_simp; done) | (go_simp; with_reducible rfl) | (go_simp; rfl)⟩) hHeld ?_
    try simp only [Act.put, List.setIfInBounds_toArray, List.set_cons_zero, List.set_cons_succ]
    refine take_at (i := 1) (v := _) 26 rfl rfl (by kernel_rfl) (by kernel_rfl) (by kernel_rfl) (fun _ _ _ h => h) (Or.inl ⟨by rfl, fun w' hW => by have hq0 := hW.1.cells.2.2.2.1; have hq1 := (ms_blk hW.2).1; have hq2 := (ms_blk hW.2).2.2.2.1; have hq3 := (ms_blk hW.2).2.2.2.2; first | (go_simp; done) | (go_simp; with_reducible rfl) | (go_simp; rfl)⟩) hHeld ?_
    try simp only [Act.put, List.setIfInBounds_toArray, List.set_cons_zero, List.set_cons_succ]
    refine take_at (i := 2) (v := _) 27 rfl rfl (by kernel_rfl) (by kernel_rfl) (by kernel_rfl) (fun _ _ _ h => h) (Or.inl ⟨by rfl, fun w' hW => by have hq0 := hW.1.cells.2.2.2.1; have hq1 := (ms_blk hW.2).1; have hq2 := (ms_blk hW.2).2.2.2.1; have hq3 := (ms_blk hW.2).2.2.2.2; first | (go_simp; done) | (go_simp; with_reducible rfl) | (go_simp; rfl)⟩) hHeld ?_
    try simp only [Act.put, List.setIfInBounds_toArray, List.set_cons_zero, List.set_cons_succ]
    refine take_at (i := 3) (v := _) 28 rfl rfl (by kernel_rfl) (by kernel_rfl) (by kernel_rfl) (fun _ _ _ h => h) (Or.inl ⟨by rfl, fun w' hW => by have hq0 := hW.1.cells.2.2.2.1; have hq1 := (ms_blk hW.2).1; have hq2 := (ms_blk hW.2).2.2.2.1; have hq3 := (ms_blk hW.2).2.2.2.2; first | (go_simp; done) | (go_simp; with_reducible rfl) | (go_simp; rfl)⟩) hHeld ?_
    try simp only [Act.put, List.setIfInBounds_toArray, List.set_cons_zero, List.set_cons_succ]
    refine take_at (i := 4) (v := _) 29 rfl rfl (by kernel_rfl) (by kernel_rfl) (by kernel_rfl) (fun _ _ _ h => h) (Or.inl ⟨by rfl, fun w' hW => by have hq0 := hW.1.cells.2.2.2.1; have hq1 := (ms_blk hW.2).1; have hq2 := (ms_blk hW.2).2.2.2.1; have hq3 := (ms_blk hW.2).2.2.2.2; first | (go_simp; done) | (go_simp; with_reducible rfl) | (go_simp; rfl)⟩) hHeld ?_
    try simp only [Act.put, List.setIfInBounds_toArray, List.set_cons_zero, List.set_cons_succ]
    refine take_at (i := 5) (v := _) 30 rfl rfl (by kernel_rfl) (by kernel_rfl) (by kernel_rfl) (fun _ _ _ h => h) (Or.inl ⟨by rfl, fun w' hW => by have hq0 := hW.1.cells.2.2.2.1; have hq1 := (ms_blk hW.2).1; have hq2 := (ms_blk hW.2).2.2.2.1; have hq3 := (ms_blk hW.2).2.2.2.2; first | (go_simp; done) | (go_simp; with_reducible rfl) | (go_simp; rfl)⟩) hHeld ?_
    try simp only [Act.put, List.setIfInBounds_toArray, List.set_cons_zero, List.set_cons_succ]
    refine take_at (i := 6) (v := _) 31 rfl rfl (by kernel_rfl) (by kernel_rfl) (by kernel_rfl) (fun _ _ _ h => h) (Or.inl ⟨by rfl, fun w' hW => by have hq0 := hW.1.cells.2.2.2.1; have hq1 := (ms_blk hW.2).1; have hq2 := (ms_blk hW.2).2.2.2.1; have hq3 := (ms_blk hW.2).2.2.2.2; first | (go_simp; done) | (go_simp; with_reducible rfl) | (go_simp; rfl)⟩) hHeld ?_
    try simp only [Act.put, List.setIfInBounds_toArray, List.set_cons_zero, List.set_cons_succ]
    refine take_at (i := 7) (v := _) 32 rfl rfl (by kernel_rfl) (by kernel_rfl) (by kernel_rfl) (fun _ _ _ h => h) (Or.inl ⟨by rfl, fun w' hW => by have hq0 := hW.1.cells.2.2.2.1; have hq1 := (ms_blk hW.2).1; have hq2 := (ms_blk hW.2).2.2.2.1; have hq3 := (ms_blk hW.2).2.2.2.2; first | (go_simp; done) | (go_simp; with_reducible rfl) | (go_simp; rfl)⟩) hHeld ?_
    try simp only [Act.put, List.setIfInBounds_toArray, List.set_cons_zero, List.set_cons_succ]
    refine take_at (i := 8) (v := _) 33 rfl rfl (by kernel_rfl) (by kernel_rfl) (by kernel_rfl) (fun _ _ _ h => h) (Or.inl ⟨by rfl, fun w' hW => by have hq0 := hW.1.cells.2.2.2.1; have hq1 := (ms_blk hW.2).1; have hq2 := (ms_blk hW.2).2.2.2.1; have hq3 := (ms_blk hW.2).2.2.2.2; first | (go_simp; done) | (go_simp; with_reducible rfl) | (go_simp; rfl)⟩) hHeld ?_
    try simp only [Act.put, List.setIfInBounds_toArray, List.set_cons_zero, List.set_cons_succ]
    have HB7 := Aside0.mk (HB6.out.below (Below.refl _ _).drew)
    clear hHeld
    generalize w6.drew = w7 at HB7 ⊢
    refine wpAnyH_ready (rs := [9]) (by kernel_rfl) (by simp) ?_
    refine AllReadyH.cons rfl (fun K hK => ?_) AllReadyH.nil
    rw [if_pos (by rfl)]
    refine store_at rfl 36 (.tmp 2) (.tmp 26) rfl w.heap.size 0 (aSlot m.n m.g) rfl rfl (there_of_block (HB7.out.blk (g := w.heap.size) (C := aSlot 0 0) (t := 36) (by simp)) 0 2 (by simp [aSlot])) (by kernel_rfl) (by simp [aSlot, Value.oneCell']) ?_
    have HB8 : Aside0 (Rb w rb B { r with L := r.L.set i { m with is := 3 } } v' [(g8, .cells (aMs { m with is := 3 }) 81), (w.heap.size + 1, .cells (aTick 0 0) 34), (w.heap.size, .cells (aSlot m.n m.g) 36)] (w7.setCells w.heap.size 0 (aSlot m.n m.g).toList)) := ⟨HB7.out.thd HNa.out (by simp) (fun p hp => by cases hp) 0 _ rfl⟩
    generalize w7.setCells w.heap.size 0 (aSlot m.n m.g).toList = w8 at HB8 ⊢
    refine hK.out _ _ ⟨HB8.out.rl, HB8.out.blk (g := g8) (C := aMs { m with is := 3 }) (t := 81) (by simp)⟩ (fun hHeld => ?_)
    clear hK K
    try simp only [Act.put, List.setIfInBounds_toArray, List.set_cons_zero, List.set_cons_succ]
    clear hHeld
    refine wpAnyH_ready (rs := [10]) (by kernel_rfl) (by simp) ?_
    refine AllReadyH.cons rfl (fun K hK => ?_) AllReadyH.nil
    rw [if_pos (by rfl)]
    refine store_at rfl 34 (.tmp 3) (.tmp 33) rfl (w.heap.size + 1) 0 (aTick m.q r.epoch) rfl rfl (there_of_block (HB8.out.blk (g := w.heap.size + 1) (C := aTick 0 0) (t := 34) (by simp)) 0 2 (by simp [aTick])) (by kernel_rfl) (by simp [aTick, Value.oneCell']) ?_
    have HB9 : Aside0 (Rb w rb B { r with L := r.L.set i { m with is := 3 } } v' [(g8, .cells (aMs { m with is := 3 }) 81), (w.heap.size + 1, .cells (aTick m.q r.epoch) 34), (w.heap.size, .cells (aSlot m.n m.g) 36)] (w8.setCells (w.heap.size + 1) 0 (aTick m.q r.epoch).toList)) := ⟨HB8.out.snd HNb.out (fun p hp => by simp only [List.mem_cons, List.not_mem_nil, or_false] at hp; subst hp; simp) 0 _ rfl⟩
    generalize w8.setCells (w.heap.size + 1) 0 (aTick m.q r.epoch).toList = w9 at HB9 ⊢
    refine hK.out _ _ ⟨HB9.out.rl, HB9.out.blk (g := g8) (C := aMs { m with is := 3 }) (t := 81) (by simp)⟩ (fun hHeld => ?_)
    clear hK K
    try simp only [Act.put, List.setIfInBounds_toArray, List.set_cons_zero, List.set_cons_succ]
    refine take_at (i := 11) (v := _) 4 rfl rfl (by kernel_rfl) (by kernel_rfl) (by kernel_rfl) (fun _ _ _ h => h) (Or.inl ⟨by rfl, fun w' hW => by have hq0 := hW.1.cells.2.2.2.1; have hq1 := (ms_blk hW.2).1; have hq2 := (ms_blk hW.2).2.2.2.1; have hq3 := (ms_blk hW.2).2.2.2.2; first | (go_simp; done) | (go_simp; with_reducible rfl) | (go_simp; rfl)⟩) hHeld ?_
    try simp only [Act.put, List.setIfInBounds_toArray, List.set_cons_zero, List.set_cons_succ]
    refine wpAnyH_done (by kernel_rfl) ?_ _
    clear hHeld
    go_wp2
    exact bodyPost_ret (res_cct (t := 36) (t2 := 34) rfl rfl rfl rfl (HB9.out.blk (g := w.heap.size) (C := aSlot m.n m.g) (t := 36) (by simp)) (HB9.out.blk (g := w.heap.size + 1) (C := aTick m.q r.epoch) (t := 34) (by simp)) Try.underlying36 rfl (by kernel_rfl) Try.underlying34 rfl (by kernel_rfl)) rfl ⟨_, HFN.out, Or.inr ⟨i, m, v', rfl, HE.out, rfl, HB9.out.nil⟩⟩
  · go_wp2_with (first | ((with_reducible refine gate_store (t := 36) (p := 2) rfl ?_); refine store_blk rfl 36 (.tmp 2) (.tmp 11) rfl (w.heap.size) 0 (aSlot 0 0) (aSlot 0 0) 36 rfl rfl (HB2.out.blk (g := w.heap.size) (C := (aSlot 0 0)) (t := 36) (by simp)) (by simp [aMs, aStamp, aSlot, aTick]) (by kernel_rfl) (by simp [aMs, aStamp, aSlot, aTick, Value.oneCell']) ?_; intro w3 hww _; have HB3 : Aside0 (Rb w rb B r (.slice A r.L.length c) [(w.heap.size + 1, .cells (aTick 0 0) 34), (w.heap.size, .cells (aSlot 0 0) 36)] w3) := ⟨by rw [hww]; exact HB2.out.snd (by simp) (fun p hp => by cases hp) 0 _ rfl⟩; clear hww) | ((with_reducible refine gate_store (t := 34) (p := 3) rfl ?_); refine store_blk rfl 34 (.tmp 3) (.tmp 12) rfl ((w.heap.size + 1)) 0 (aTick 0 0) (aTick 0 0) 34 rfl rfl (HB3.out.blk (g := (w.heap.size + 1)) (C := (aTick 0 0)) (t := 34) (by simp)) (by simp [aMs, aStamp, aSlot, aTick]) (by kernel_rfl) (by simp [aMs, aStamp, aSlot, aTick, Value.oneCell']) ?_; intro w4 hww _; have HB4 : Aside0 (Rb w rb B r (.slice A r.L.length c) [(w.heap.size + 1, .cells (aTick 0 0) 34), (w.heap.size, .cells (aSlot 0 0) 36)] w4) := ⟨by rw [hww]; exact HB3.out.head (fun p hp => by simp only [List.mem_cons, List.not_mem_nil, or_false] at hp; subst hp; simp) 0 _ rfl⟩; clear hww))
    exact bodyPost_ret (res_cct (t := 36) (t2 := 34) rfl rfl rfl rfl (HB4.out.blk (g := w.heap.size) (C := aSlot 0 0) (t := 36) (by simp)) (HB4.out.blk (g := w.heap.size + 1) (C := aTick 0 0) (t := 34) (by simp)) Try.underlying36 rfl (by kernel_rfl) Try.underlying34 rfl (by kernel_rfl)) rfl ⟨_, HFN.out, Or.inl ⟨rfl, rfl, HB4.out.nil⟩⟩
/-- What Retire answers, and makes. -/
def RetE (r : RS) (q ep : Int) (rb B : Nat) (v : Value) (w : World) (e : Ending) (w' : World) : Prop :=
    (ep ≠ r.epoch ∧ e = .returned (.tuple #[.agg (aSlot 0 0), .bool false, .int .i64 0]) ∧ Rb w rb B r v [] w') ∨ (ep = r.epoch ∧ ∃ res : Int, Fnd r.L (CP r q ep 3) res ∧ ((res = -1 ∧ e = .returned (.tuple #[.agg (aSlot 0 0), .bool false, .int .i64 82]) ∧ Rb w rb B r v [] w') ∨ (∃ (i : Nat) (m : Ms) (v' : Value), res = (i : Int) ∧ r.L[i]? = some m ∧ ((r.two = true ∧ e = .returned (.tuple #[.agg (aSlot m.n m.g), .bool true, .int .i64 0]) ∧ Rb w rb B { r with L := r.L.take i ++ r.L.drop (i + 1) } v' [] w') ∨
      (r.two = false ∧ e = .returned (.tuple #[.agg (aSlot 0 0), .bool false, .int .i64 0]) ∧ Rb w rb B { r with L := r.L.set i { m with is := 4 } } v' [] w')))))
set_option maxRecDepth 100000 in
set_option maxHeartbeats 4000000 in
theorem RRet_calls {w : World} {rb B : Nat} {r : RS} {v : Value} (h : RL w rb B r v) (q ep : Int) : Calls Try.prog 31 #[.pointer (some ⟨rb, 0, none⟩), .agg (aTick q ep)] w fun e w' => RetE r q ep rb B v w e w' := by
  obtain ⟨A, c, rfl, hc⟩ := h.form
  have HB0 := Aside0.mk ((Rb.start h).alloc2 (.cells (aTick q ep) 34) (.cells (aSlot 0 0) 36))
  have HLEN := Aside0.mk h.len.1
  have HCC := Aside0.mk hc
  obtain ⟨i0, hi0, hz0, hz1, hz2⟩ := info_parts info81
  have HI0 := Aside0.mk (And.intro hi0 (And.intro hz0 (And.intro hz1 hz2)))
  clear hi0 hz0 hz1 hz2 h
  go_enter Try.func31, Try.ntmps31
  go_upto_region 1 with fail
  generalize hw1 : (w.alloc (.cells (aTick q ep) 34)).alloc (.cells (aSlot 0 0) 36) = w1 at HB0 ⊢
  clear hw1
  have z0 : w1.cell? ⟨w.heap.size, 0, none⟩ = some (.int .u64 q) := (HB0.out.ptr (C := aTick q ep) (t := 34) (by simp) 0).1
  have z1 : w1.cell? ⟨w.heap.size, 1, none⟩ = some (.int .u64 ep) := (HB0.out.ptr (C := aTick q ep) (t := 34) (by simp) 1).1
  have c3 := HB0.out.rl.cells.2.2.2.1
  by_cases he : ep = r.epoch
  · have k1 : (ep != r.epoch) = false := by simp [he]
    have HEP := Aside0.mk he
    clear he
    go_quiet (fail)
    clear z0 z1 c3
    have HB1 := Aside0.mk (HB0.out.below (pw_below_drewN (Below.refl _ _) nq))
    clear HB0
    generalize w1.drewN nq = w1' at HB1 ⊢
    have z0 : w1'.cell? ⟨w.heap.size, 0, none⟩ = some (.int .u64 q) := (HB1.out.ptr (C := aTick q ep) (t := 34) (by simp) 0).1
    have z1 : w1'.cell? ⟨w.heap.size, 1, none⟩ = some (.int .u64 ep) := (HB1.out.ptr (C := aTick q ep) (t := 34) (by simp) 1).1
    go_upto_region 4 with (go_at_call 41; refine (find_calls HB1.out.rl q ep 3 3).mono ?_; rintro e w2 ⟨res, rfl, hfnd, hb2⟩; have HFN := Aside0.mk hfnd; have HB2 := Aside0.mk (HB1.out.below hb2); clear hfnd hb2)
    clear z0 z1 HB1
    rcases HFN.out with ⟨i, hil, rfl, ⟨m, hm, -⟩, -⟩ | ⟨rfl, -⟩
    · have HE := Aside0.mk hm
      have HIL := Aside0.mk hil
      clear hm
      have b1 : (0 : Int) ≤ (i : Int) := Int.natCast_nonneg i
      have b2 : (i : Int) < (r.L.length : Int) := Int.ofNat_lt.2 hil
      have b3 : decide ((i : Int) < 0) = false := decide_eq_false (by omega)
      have ht : ((i : Int)).toNat = i := Int.toNat_natCast i
      clear hil
      have c4 := HB2.out.rl.cells.2.2.2.2
      obtain ⟨gT, oT, rfl, m0, m1, m2, m3, m4, m5, m6⟩ := HB2.out.rl.msg HE.out
      go_upto_region 7 with fail
      clear m0 m1 m2 m3 m4 m5 m6 c4
      have HB3 := Aside0.mk (HB2.out.alloc (.cells (aMs m) 81))
      have HFR := Aside0.mk HB2.out.fresh
      try change Code.wp _ _ _ _ (w2.alloc (.cells (aMs m) 81))
      generalize w2.alloc (.cells (aMs m) 81) = w3 at HB3 ⊢
      generalize w2.heap.size = g8 at HB3 HFR ⊢
      have HNa : Aside0 (g8 ≠ w.heap.size) := ⟨fun e => HFR.out _ (List.mem_cons_of_mem _ List.mem_cons_self) e.symm⟩
      have HNb : Aside0 (g8 ≠ w.heap.size + 1) := ⟨fun e => HFR.out _ List.mem_cons_self e.symm⟩
      have c1 := HB3.out.rl.cells.2.1
      cases h2 : r.two
      · rw [h2] at c1
        have HT := Aside0.mk h2
        clear h2
        go_upto_region 10 with fail
        clear c1
        have x1 := HB3.out.ptr (g := g8) (C := aMs m) (t := 81) (by simp) 1
        obtain ⟨x1, y1⟩ := x1
        replace x1 : w3.cell? ⟨g8, 1, none⟩ = some (.int .i64 m.is) := x1
        go_upto_region 11 with fail
        clear x1 y1
        have HB4 : Aside0 (Rb w rb B r (.slice (some ⟨gT, oT, none⟩) r.L.length c) [(g8, .cells (aMs { m with is := 4 }) 81), (w.heap.size + 1, .cells (aSlot 0 0) 36), (w.heap.size, .cells (aTick q ep) 34)] (w3.setCell ⟨g8, 1, none⟩ (.int .i64 4))) := ⟨HB3.out.head HFR.out 1 [.int .i64 4] rfl⟩
        generalize w3.setCell ⟨g8, 1, none⟩ (.int .i64 4) = w4 at HB4 ⊢
        have l0 : w4.cell? ⟨g8, 0, none⟩ = some (.int .u64 ({ m with is := 4 }).q) := (HB4.out.ptr (g := g8) (C := aMs { m with is := 4 }) (t := 81) (by simp) 0).1
        have l1 : w4.cell? ⟨g8, 1, none⟩ = some (.int .i64 ({ m with is := 4 }).is) := (HB4.out.ptr (g := g8) (C := aMs { m with is := 4 }) (t := 81) (by simp) 1).1
        have l2 : w4.cell? ⟨g8, 2, none⟩ = some (.bool ({ m with is := 4 }).laid) := (HB4.out.ptr (g := g8) (C := aMs { m with is := 4 }) (t := 81) (by simp) 2).1
        have l3 : w4.cell? ⟨g8, 3, none⟩ = some (.int .i64 ({ m with is := 4 }).n) := (HB4.out.ptr (g := g8) (C := aMs { m with is := 4 }) (t := 81) (by simp) 3).1
        have l4 : w4.cell? ⟨g8, 4, none⟩ = some (.int .u64 ({ m with is := 4 }).g) := (HB4.out.ptr (g := g8) (C := aMs { m with is := 4 }) (t := 81) (by simp) 4).1
        have l5 : w4.cell? ⟨g8, 5, none⟩ = some (.int .i64 ({ m with is := 4 }).x) := (HB4.out.ptr (g := g8) (C := aMs { m with is := 4 }) (t := 81) (by simp) 5).1
        have l6 : w4.cell? ⟨g8, 6, none⟩ = some (.int .i64 ({ m with is := 4 }).y) := (HB4.out.ptr (g := g8) (C := aMs { m with is := 4 }) (t := 81) (by simp) 6).1
        go_upto_region 12 with (go_at_call 42; refine (set_calls HB4.out.rl i { m with is := 4 } (List.getElem?_eq_some_iff.1 HE.out).1).mono ?_; rintro e w6 ⟨rfl, v', hrn⟩; have HB6 := Aside0.mk (HB4.out.call hrn); clear hrn)
        clear l0 l1 l2 l3 l4 l5 l6
        go_wp2_with ((with_reducible refine gate_store (t := 36) (p := 4) rfl ?_); refine store_blk rfl 36 (.tmp 4) (.tmp 60) rfl ((w.heap.size + 1)) 0 (aSlot 0 0) (aSlot 0 0) 36 rfl rfl (HB6.out.blk (g := (w.heap.size + 1)) (C := (aSlot 0 0)) (t := 36) (by simp)) (by simp [aMs, aStamp, aSlot, aTick]) (by kernel_rfl) (by simp [aMs, aStamp, aSlot, aTick, Value.oneCell']) ?_; intro w7 hww _; have HB7 : Aside0 (Rb w rb B { r with L := r.L.set i { m with is := 4 } } v' [(g8, .cells (aMs { m with is := 4 }) 81), (w.heap.size + 1, .cells (aSlot 0 0) 36), (w.heap.size, .cells (aTick q ep) 34)] w7) := ⟨by rw [hww]; exact HB6.out.snd HNb.out (fun p hp => by simp only [List.mem_cons, List.not_mem_nil, or_false] at hp; subst hp; simp) 0 _ rfl⟩; clear hww)
        exact bodyPost_ret (res_ctt (t := 36) rfl rfl rfl rfl (HB7.out.blk (g := w.heap.size + 1) (C := aSlot 0 0) (t := 36) (by simp)) Try.underlying36 rfl (by kernel_rfl)) rfl (Or.inr ⟨HEP.out, _, HFN.out, Or.inr ⟨i, m, v', rfl, HE.out, Or.inr ⟨HT.out, rfl, HB7.out.nil⟩⟩⟩)
      · rw [h2] at c1
        have HT := Aside0.mk h2
        clear h2
        go_upto_region 8 with fail
        clear c1
        have p1 : i ≤ c := Nat.le_trans (Nat.le_of_lt HIL.out) HCC.out
        have p2 : IntKind.i64.wrap ((i : Int) + 1) = (i : Int) + 1 := by rw [IntKind.wrap_i64]; have := HIL.out; have := HLEN.out; omega
        have p3 : ((i : Int) + 1).toNat = i + 1 := by omega
        have p4 : (0 : Int) ≤ (i : Int) + 1 := by omega
        have p5 : (i : Int) + 1 ≤ (r.L.length : Int) := by have := HIL.out; omega
        refine startN (S := fun w' => RL w' rb B r (.slice (some ⟨gT, oT, none⟩) r.L.length c) ∧ w'.heap[g8]? = some (.cells (aMs m) 81 (0, 0))) (N := [5, 12]) (by kernel_rfl) ?_
        have hHeld : (fun w' => RL w' rb B r (.slice (some ⟨gT, oT, none⟩) r.L.length c) ∧ w'.heap[g8]? = some (.cells (aMs m) 81 (0, 0))) w3.drew := ⟨(HB3.out.below (Below.refl _ _).drew).rl, (HB3.out.below (Below.refl _ _).drew).blk (g := g8) (C := aMs m) (t := 81) (by simp)⟩
        refine takeF (i := 0) (v := _) 34 rfl rfl (by kernel_rfl) (by kernel_rfl) (by kernel_rfl) (fun _ _ _ h => h) (Or.inl ⟨by rfl, fun w' _ => by first | (go_simp; done) | (go_simp; with_reducible rfl) | (go_simp; rfl)⟩) ?_
        try simp only [Act.put, List.setIfInBounds_toArray, List.set_cons_zero, List.set_cons_succ]
        refine takeF (i := 2) (v := _) 36 rfl rfl (by kernel_rfl) (by kernel_rfl) (by kernel_rfl) (fun _ _ _ h => h) (Or.inl ⟨by rfl, fun w' _ => by first | (go_simp; done) | (go_simp; with_reducible rfl) | (go_simp; rfl)⟩) ?_
        try simp only [Act.put, List.setIfInBounds_toArray, List.set_cons_zero, List.set_cons_succ]
        refine takeF (i := 3) (v := _) 37 rfl rfl (by kernel_rfl) (by kernel_rfl) (by kernel_rfl) (fun _ _ _ h => h) (Or.inl ⟨by rfl, fun w' _ => by first | (go_simp; done) | (go_simp; with_reducible rfl) | (go_simp; rfl)⟩) ?_
        try simp only [Act.put, List.setIfInBounds_toArray, List.set_cons_zero, List.set_cons_succ]
        refine takeF (i := 4) (v := _) 38 rfl rfl (by kernel_rfl) (by kernel_rfl) (by kernel_rfl) (fun _ _ _ h => h) (Or.inl ⟨by rfl, fun w' _ => by first | (go_simp; done) | (go_simp; with_reducible rfl) | (go_simp; rfl)⟩) ?_
        try simp only [Act.put, List.setIfInBounds_toArray, List.set_cons_zero, List.set_cons_succ]
        refine takeN (i := 5) (v := _) 39 rfl rfl (by kernel_rfl) (by kernel_rfl) (by kernel_rfl) (fun _ _ _ h => h) (by kernel_rfl) (Or.inl ⟨by rfl, fun w' hW => by have hq0 := hW.1.cells.2.2.2.2; first | (go_simp; done) | (go_simp; with_reducible rfl) | (go_simp; rfl)⟩) hHeld ?_
        try simp only [Act.put, List.setIfInBounds_toArray, List.set_cons_zero, List.set_cons_succ]
        refine takeF (i := 6) (v := _) 40 rfl rfl (by kernel_rfl) (by kernel_rfl) (by kernel_rfl) (fun _ _ _ h => h) (Or.inl ⟨by rfl, fun w' _ => by first | (go_simp; done) | (go_simp; with_reducible rfl) | (go_simp; rfl)⟩) ?_
        try simp only [Act.put, List.setIfInBounds_toArray, List.set_cons_zero, List.set_cons_succ]
        refine takeF (i := 7) (v := _) 41 rfl rfl (by kernel_rfl) (by kernel_rfl) (by kernel_rfl) (fun _ _ _ h => h) (Or.inl ⟨by rfl, fun w' _ => by first | (go_simp; done) | (go_simp; with_reducible rfl) | (go_simp; rfl)⟩) ?_
        try simp only [Act.put, List.setIfInBounds_toArray, List.set_cons_zero, List.set_cons_succ]
        refine takeF (i := 9) (v := _) 43 rfl rfl (by kernel_rfl) (by kernel_rfl) (by kernel_rfl) (fun _ _ _ h => h) (Or.inl ⟨by rfl, fun w' _ => by first | (go_simp; done) | (go_simp; with_reducible rfl) | (go_simp; rfl)⟩) ?_
        try simp only [Act.put, List.setIfInBounds_toArray, List.set_cons_zero, List.set_cons_succ]
        refine takeF (i := 10) (v := _) 44 rfl rfl (by kernel_rfl) (by kernel_rfl) (by kernel_rfl) (fun _ _ _ h => h) (Or.inl ⟨by rfl, fun w' _ => by first | (go_simp; done) | (go_simp; with_reducible rfl) | (go_simp; rfl)⟩) ?_
        try simp only [Act.put, List.setIfInBounds_toArray, List.set_cons_zero, List.set_cons_succ]
        refine takeF (i := 11) (v := _) 45 rfl rfl (by kernel_rfl) (by kernel_rfl) (by kernel_rfl) (fun _ _ _ h => h) (Or.inl ⟨by rfl, fun w' _ => by first | (go_simp; done) | (go_simp; with_reducible rfl) | (go_simp; rfl)⟩) ?_
        try simp only [Act.put, List.setIfInBounds_toArray, List.set_cons_zero, List.set_cons_succ]
        refine takeN (i := 12) (v := _) 46 rfl rfl (by kernel_rfl) (by kernel_rfl) (by kernel_rfl) (fun _ _ _ h => h) (by kernel_rfl) (Or.inl ⟨by rfl, fun w' hW => by have hq0 := hW.1.cells.2.2.2.2; first | (go_simp; done) | (go_simp; with_reducible rfl) | (go_simp; rfl)⟩) hHeld ?_
        try simp only [Act.put, List.setIfInBounds_toArray, List.set_cons_zero, List.set_cons_succ]
        refine takeF (i := 13) (v := _) 47 rfl rfl (by kernel_rfl) (by kernel_rfl) (by kernel_rfl) (fun _ _ _ h => h) (Or.inl ⟨by rfl, fun w' _ => by first | (go_simp; done) | (go_simp; with_reducible rfl) | (go_simp; rfl)⟩) ?_
        try simp only [Act.put, List.setIfInBounds_toArray, List.set_cons_zero, List.set_cons_succ]
        refine takeF (i := 14) (v := _) 48 rfl rfl (by kernel_rfl) (by kernel_rfl) (by kernel_rfl) (fun _ _ _ h => h) (Or.inl ⟨by rfl, fun w' _ => by first | (go_simp; done) | (go_simp; with_reducible rfl) | (go_simp; rfl)⟩) ?_
        try simp only [Act.put, List.setIfInBounds_toArray, List.set_cons_zero, List.set_cons_succ]
        refine takeF (i := 15) (v := _) 49 rfl rfl (by kernel_rfl) (by kernel_rfl) (by kernel_rfl) (fun _ _ _ h => h) (Or.inl ⟨by rfl, fun w' _ => by first | (go_simp; done) | (go_simp; with_reducible rfl) | (go_simp; rfl)⟩) ?_
        try simp only [Act.put, List.setIfInBounds_toArray, List.set_cons_zero, List.set_cons_succ]
        have HB4 := Aside0.mk (HB3.out.below (Below.refl _ _).drew)
        clear hHeld
        generalize w3.drew = w4 at HB4 ⊢
        refine readyN (rs := [1]) (by kernel_rfl) (by simp) ?_
        refine eachN.cons rfl (fun K hK => ?_) eachN.nil
        go_simp
        have HB5 := Aside0.mk (HB4.out.alloc (.cells #[] 81))
        try change K _ (w4.alloc (.cells #[] 81))
        have HP4 : Aside0 (∀ k : Nat, k = g8 ∨ k = w.heap.size + 1 ∨ k = w.heap.size → k < (w4.alloc (.cells #[] 81)).heap.size) := ⟨fun k hk => by
          have q1 := (Array.getElem?_eq_some_iff.1 (HB5.out.blk (g := g8) (C := aMs m) (t := 81) (by simp))).1
          have q2 := (Array.getElem?_eq_some_iff.1 (HB5.out.blk (g := w.heap.size + 1) (C := aSlot 0 0) (t := 36) (by simp))).1
          have q3 := (Array.getElem?_eq_some_iff.1 (HB5.out.blk (g := w.heap.size) (C := aTick q ep) (t := 34) (by simp))).1
          rcases hk with rfl | rfl | rfl
          · exact q1
          · exact q2
          · exact q3⟩
        generalize w4.alloc (.cells #[] 81) = w5 at HB5 HP4 ⊢
        generalize w4.heap.size = g9 at HB5 ⊢
        refine hK.out _ _ ⟨HB5.out.rl, HB5.out.blk (g := g8) (C := aMs m) (t := 81) (by simp)⟩ (fun hHeld => ?_)
        clear hK K
        try simp only [Act.put, List.setIfInBounds_toArray, List.set_cons_zero, List.set_cons_succ]
        clear hHeld HB4
        obtain ⟨v2, w6, hrun, hrow, hgr⟩ := run_copy (P := Try.prog) w5 74 74 81 i0 _ 7 56 Try.underlying74 HI0.out.1 HI0.out.2.1 HI0.out.2.2.1 HI0.out.2.2.2 rfl (by decide) ⟨g9, 0, none⟩ (some ⟨gT, oT, none⟩) i c (fM (r.L.take i)) (by rw [fM_len, List.length_take, Nat.min_eq_left (Nat.le_of_lt HIL.out)]) (src_take HB5.out.rl.row.src i) (by have := HIL.out; have := HLEN.out; unfold maxLen; omega) (by have := HIL.out; have := HLEN.out; omega)
        obtain ⟨A2, c2, rfl, hc2⟩ := hrow.form
        have HRUN := Aside0.mk hrun
        have HROW := Aside0.mk hrow
        have HB6 := Aside0.mk (HB5.out.below (grown_below hgr))
        have HGR := Aside0.mk (grown_below hgr)
        clear hrun hrow hgr hc2
        refine readyN (rs := [8]) (by kernel_rfl) (by simp) ?_
        refine eachN.cons rfl (fun K hK => ?_) eachN.nil
        rw [if_pos (by rfl)]
        refine app_at _ (.tmp 35) (.tmp 41) 74 rfl (v1 := .slice (some ⟨g9, 0, none⟩) 0 0) (v2 := .slice (some ⟨gT, oT, none⟩) i c) rfl rfl HRUN.out ?_
        refine hK.out _ _ ⟨HB6.out.rl, HB6.out.blk (g := g8) (C := aMs m) (t := 81) (by simp)⟩ (fun hHeld => ?_)
        clear hK K
        try simp only [Act.put, List.setIfInBounds_toArray, List.set_cons_zero, List.set_cons_succ]
        clear hHeld
        obtain ⟨v3, w7, hrun, hrow, hon⟩ := run_append_row (P := Try.prog) w6 74 74 81 i0 _ 7 56 Try.underlying74 HI0.out.1 HI0.out.2.1 HI0.out.2.2.1 HI0.out.2.2.2 rfl (by decide) w5.heap.size _ i (fM (r.L.take i)) HROW.out HGR.out.size (if c = i + 1 then ⟨gT, oT, none⟩ else ⟨gT, oT + (i + 1) * 7, none⟩) (r.L.length - (i + 1)) (c - (i + 1)) (fM (r.L.drop (i + 1))) (by rw [fM_len, List.length_drop]) (src_drop HB6.out.rl.row.src ⟨HIL.out, HCC.out⟩) (fM_oneC _) (by have := HIL.out; have := HLEN.out; unfold maxLen; omega) (by have := HIL.out; have := HLEN.out; omega)
        rw [← ite_some'] at hrun
        have hlen : i + (r.L.length - (i + 1)) = (r.L.take i ++ r.L.drop (i + 1)).length := by have := HIL.out; rw [List.length_append, List.length_take, List.length_drop, Nat.min_eq_left (Nat.le_of_lt this)]
        rw [hlen, ← fM_append] at hrow
        have hl64 : (r.L.take i ++ r.L.drop (i + 1)).length ≤ 64 := by rw [List.length_append, List.length_take, List.length_drop]; have := HLEN.out; omega
        clear hlen
        generalize hLL : r.L.take i ++ r.L.drop (i + 1) = LL at hrow hl64
        have HLL := Aside0.mk hLL
        have HL64 := Aside0.mk hl64
        clear hLL hl64
        obtain ⟨A3, c3', rfl, hc3⟩ := hrow.form
        have HRUN2 := Aside0.mk hrun
        have HROW2 := Aside0.mk hrow
        have HB7 := Aside0.mk (HB5.out.below (HGR.out.trans (hon.below HGR.out.size)))
        clear hrun hrow hon hc3
        refine readyN (rs := [16]) (by kernel_rfl) (by simp) ?_
        refine eachN.cons rfl (fun K hK => ?_) eachN.nil
        rw [if_pos (by rfl)]
        refine app_at _ (.tmp 42) (.tmp 49) 74 rfl (v1 := .slice A2 i c2) (v2 := .slice (if c = i + 1 then some ⟨gT, oT, none⟩ else some ⟨gT, oT + (i + 1) * 7, none⟩) (r.L.length - (i + 1)) (c - (i + 1))) rfl rfl HRUN2.out ?_
        refine hK.out _ _ ⟨HB7.out.rl, HB7.out.blk (g := g8) (C := aMs m) (t := 81) (by simp)⟩ (fun hHeld => ?_)
        clear hK K
        try simp only [Act.put, List.setIfInBounds_toArray, List.set_cons_zero, List.set_cons_succ]
        refine takeF (i := 17) (v := _) 51 rfl rfl (by kernel_rfl) (by kernel_rfl) (by kernel_rfl) (fun _ _ _ h => h) (Or.inl ⟨by rfl, fun w' _ => by first | (go_simp; done) | (go_simp; with_reducible rfl) | (go_simp; rfl)⟩) ?_
        try simp only [Act.put, List.setIfInBounds_toArray, List.set_cons_zero, List.set_cons_succ]
        refine takeF (i := 18) (v := _) 52 rfl rfl (by kernel_rfl) (by kernel_rfl) (by kernel_rfl) (fun _ _ _ h => h) (Or.inl ⟨by rfl, fun w' _ => by first | (go_simp; done) | (go_simp; with_reducible rfl) | (go_simp; rfl)⟩) ?_
        try simp only [Act.put, List.setIfInBounds_toArray, List.set_cons_zero, List.set_cons_succ]
        clear hHeld
        have d4 := HB7.out.rl.cells.2.2.2.2
        have g4 := HB7.out.rl.frozen 4
        refine readyN (rs := [19]) (by kernel_rfl) (by simp) ?_
        refine eachN.last rfl (by kernel_rfl) (fun K hK => ?_)
        go_simp
        have HB8 : Aside0 (Rb w rb B { r with L := LL } (.slice A3 LL.length c3') [(g8, .cells (aMs m) 81), (w.heap.size + 1, .cells (aSlot 0 0) 36), (w.heap.size, .cells (aTick q ep) 34)] (w7.setCell ⟨rb, 4, none⟩ (.slice A3 LL.length c3'))) := ⟨HB7.out.setL HROW2.out HB5.out.rl.sz HL64.out (fun p hp => ⟨by simp only [List.mem_cons, List.not_mem_nil, or_false] at hp ⊢; rcases hp with rfl | rfl | rfl <;> simp, HP4.out p.1 (by simp only [List.mem_cons, List.not_mem_nil, or_false] at hp; rcases hp with rfl | rfl | rfl <;> simp)⟩)⟩
        clear d4 g4
        try change K _ (w7.setCell ⟨rb, 4, none⟩ (.slice A3 LL.length c3'))
        generalize w7.setCell ⟨rb, 4, none⟩ (.slice A3 LL.length c3') = w8 at HB8 ⊢
        refine hK.out _ _ ?_
        clear hK K
        try simp only [Act.put, List.setIfInBounds_toArray, List.set_cons_zero, List.set_cons_succ]
        refine doneN (by kernel_rfl) ?_ _
        have l3 : w8.cell? ⟨g8, 3, none⟩ = some (.int .i64 m.n) := (HB8.out.ptr (g := g8) (C := aMs m) (t := 81) (by simp) 3).1
        have l4 : w8.cell? ⟨g8, 4, none⟩ = some (.int .u64 m.g) := (HB8.out.ptr (g := g8) (C := aMs m) (t := 81) (by simp) 4).1
        go_wp2_with ((with_reducible refine gate_store (t := 36) (p := 4) rfl ?_); refine store_blk rfl 36 (.tmp 4) (.tmp 54) rfl ((w.heap.size + 1)) 0 (aSlot m.n m.g) (aSlot 0 0) 36 rfl rfl (HB8.out.blk (g := (w.heap.size + 1)) (C := (aSlot 0 0)) (t := 36) (by simp)) (by simp [aMs, aStamp, aSlot, aTick]) (by kernel_rfl) (by simp [aMs, aStamp, aSlot, aTick, Value.oneCell']) ?_; intro w9 hww _; have HB9 : Aside0 (Rb w rb B { r with L := LL } (.slice A3 LL.length c3') [(g8, .cells (aMs m) 81), (w.heap.size + 1, .cells (aSlot m.n m.g) 36), (w.heap.size, .cells (aTick q ep) 34)] w9) := ⟨by rw [hww]; exact HB8.out.snd HNb.out (fun p hp => by simp only [List.mem_cons, List.not_mem_nil, or_false] at hp; subst hp; simp) 0 _ rfl⟩; clear hww)
        all_goals exact bodyPost_ret (res_ctt (t := 36) rfl rfl rfl rfl (HB9.out.blk (g := w.heap.size + 1) (C := aSlot m.n m.g) (t := 36) (by simp)) Try.underlying36 rfl (by kernel_rfl)) rfl (Or.inr ⟨HEP.out, _, HFN.out, Or.inr ⟨i, m, _, rfl, HE.out, Or.inl ⟨HT.out, rfl, by rw [HLL.out]; exact HB9.out.nil⟩⟩⟩)
    · go_wp2_with ((with_reducible refine gate_store (t := 36) (p := 4) rfl ?_); refine store_blk rfl 36 (.tmp 4) (.tmp 22) rfl ((w.heap.size + 1)) 0 (aSlot 0 0) (aSlot 0 0) 36 rfl rfl (HB2.out.blk (g := (w.heap.size + 1)) (C := (aSlot 0 0)) (t := 36) (by simp)) (by simp [aMs, aStamp, aSlot, aTick]) (by kernel_rfl) (by simp [aMs, aStamp, aSlot, aTick, Value.oneCell']) ?_; intro w7 hww _; have HB7 : Aside0 (Rb w rb B r (.slice A r.L.length c) [(w.heap.size + 1, .cells (aSlot 0 0) 36), (w.heap.size, .cells (aTick q ep) 34)] w7) := ⟨by rw [hww]; exact HB2.out.head (fun p hp => by simp only [List.mem_cons, List.not_mem_nil, or_false] at hp; subst hp; simp) 0 _ rfl⟩; clear hww)
      exact bodyPost_ret (res_ctt (t := 36) rfl rfl rfl rfl (HB7.out.blk (g := w.heap.size + 1) (C := aSlot 0 0) (t := 36) (by simp)) Try.underlying36 rfl (by kernel_rfl)) rfl (Or.inr ⟨HEP.out, _, HFN.out, Or.inl ⟨rfl, rfl, HB7.out.nil⟩⟩)
  · have k1 : (ep != r.epoch) = true := by simp [he]
    have HEP := Aside0.mk he
    clear he
    go_quiet (fail)
    clear z0 z1 c3
    have HB1 := Aside0.mk (HB0.out.below (pw_below_drewN (Below.refl _ _) nq))
    clear HB0
    generalize w1.drewN nq = w1' at HB1 ⊢
    go_wp2_with ((with_reducible refine gate_store (t := 36) (p := 4) rfl ?_); refine store_blk rfl 36 (.tmp 4) (.tmp 16) rfl ((w.heap.size + 1)) 0 (aSlot 0 0) (aSlot 0 0) 36 rfl rfl (HB1.out.blk (g := (w.heap.size + 1)) (C := (aSlot 0 0)) (t := 36) (by simp)) (by simp [aMs, aStamp, aSlot, aTick]) (by kernel_rfl) (by simp [aMs, aStamp, aSlot, aTick, Value.oneCell']) ?_; intro w7 hww _; have HB7 : Aside0 (Rb w rb B r (.slice A r.L.length c) [(w.heap.size + 1, .cells (aSlot 0 0) 36), (w.heap.size, .cells (aTick q ep) 34)] w7) := ⟨by rw [hww]; exact HB1.out.head (fun p hp => by simp only [List.mem_cons, List.not_mem_nil, or_false] at hp; subst hp; simp) 0 _ rfl⟩; clear hww)
    exact bodyPost_ret (res_ctt (t := 36) rfl rfl rfl rfl (HB7.out.blk (g := w.heap.size + 1) (C := aSlot 0 0) (t := 36) (by simp)) Try.underlying36 rfl (by kernel_rfl)) rfl (Or.inl ⟨HEP.out, rfl, HB7.out.nil⟩)
end Go.Proofs.Ytglekbbdbnpohaa.QLn
