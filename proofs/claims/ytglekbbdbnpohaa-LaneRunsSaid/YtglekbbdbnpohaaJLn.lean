/- Lane: Retire. Written by a program of this repo (tools/gen_lret.py). -/
import Derived.Test.YtglekbbdbnpohaaILn
namespace Go.Proofs.Ytglekbbdbnpohaa.QLn
open Go.RowKit Go.Proofs.YtglekbbdbnpohaaW.PrintWords Go.Proofs.YtglekbbdbnpohaaW.PrintLast Go.Proofs.YtglekbbdbnpohaaW.PrintMore
set_option linter.unusedVariables false
set_option linter.unusedSimpArgs false
def ret2S (s : LS) (q : Int) : LS := { s with D := s.D.del (.int .u64 q), left := s.left + 1 }
def ret1S (s : LS) (q : Int) (p : Past) : LS := { s with n := s.n + 1, D := s.D.put (.int .u64 q) (.held ⟨p.n, p.g, true⟩) }
set_option maxRecDepth 100000 in
set_option maxHeartbeats 4000000 in
theorem Retire_old (b : Nat) (s : LS) (q ep : Int) (hc : 0 < s.credit) (hq : U64 q) (he : ep ≠ s.epoch) (w : World) (h : Ln w b s) : Calls Try.prog 19 #[.pointer (some ⟨b, 0, none⟩), .agg (aTick q ep)] w fun e w' =>
    e = .returned (.tuple #[.agg (aSlot 0 0), .bool false, .int .i64 0]) ∧ Below w.heap.size w w' := by
  have e1 : (ep != s.epoch) = true := by simp [he]
  clear he
  have HQ := Aside0.mk hq
  have d1 : decide (s.credit > 0) = true := decide_eq_true hc
  have HB0 := Aside0.mk (((Bd.start h).alloc (.cells (aTick q ep) 34)).alloc (.cells (aSlot 0 0) 36))
  rw [show (w.alloc (.cells (aTick q ep) 34)).heap.size = w.heap.size + 1 from World.size_alloc _ _] at HB0
  have HW0 : Aside0 (Below w.heap.size w ((w.alloc (.cells (aTick q ep) 34)).alloc (.cells (aSlot 0 0) 36))) := ⟨((Below.refl _ _).alloc (Nat.le_refl _) _).alloc (by simp) _⟩
  clear h hc hq
  go_enter Try.func19, Try.ntmps19
  go_upto_region 1 with fail
  generalize (w.alloc (.cells (aTick q ep) 34)).alloc (.cells (aSlot 0 0) 36) = w1 at HB0 HW0 ⊢
  go_upto_region 3 with (go_at_call 34; refine (is_calls b s _ HB0.out.ln).mono ?_; rintro e1 w2 ⟨rfl, hw2⟩; have HB1 := Aside0.mk (HB0.out.below hw2); have HW1 := Aside0.mk (HW0.out.trans (hw2.mono HW0.out.size)); clear hw2)
  have t0 : w2.cell? ⟨w.heap.size, 0, none⟩ = some (.int .u64 q) := (HB1.out.ptr (List.mem_cons_of_mem _ List.mem_cons_self) 0).1
  have t1 : w2.cell? ⟨w.heap.size, 1, none⟩ = some (.int .u64 ep) := (HB1.out.ptr (List.mem_cons_of_mem _ List.mem_cons_self) 1).1
  have c9 : w2.cell? ⟨b, 328, none⟩ = some (.int .u64 s.epoch) := HB1.out.ln.cell 328 (by omega)
  go_quiet (fail)
  have HB2 : Aside0 (Bd b s.mb w s [(w.heap.size + 1, .cells (aSlot 0 0) 36), (w.heap.size, .cells (aTick q ep) 34)] (w2.drewN nq)) := ⟨HB1.out.below (pw_below_drewN (Below.refl _ _) nq)⟩
  have HW2 : Aside0 (Below w.heap.size w (w2.drewN nq)) := ⟨pw_below_drewN HW1.out nq⟩
  replace t0 : (w2.drewN nq).cell? ⟨w.heap.size, 0, none⟩ = some (.int .u64 q) := t0
  clear t1 c9 HB0 HB1 HW0 HW1
  generalize w2.drewN nq = w3 at HB2 HW2 t0 ⊢
  have hr1 := (HB2.out.obj (w.heap.size + 1, _) List.mem_cons_self).1
  have HWL := HW2
  go_wp2_with ((with_reducible refine gate_store (t := 36) (p := 4) rfl ?_); refine store_blk rfl 36 (.tmp 4) (.tmp 22) rfl (w.heap.size + 1) 0 (aSlot 0 0) (aSlot 0 0) 36 rfl rfl hr1 (by simp) (by kernel_rfl) (by kernel_rfl) ?_; intro w9 hw9 hr9; have HW9 := Aside0.mk (And.intro hw9 hr9); clear hw9 hr9)
  exact bodyPost_ret (res_ctt (t := 36) rfl rfl rfl rfl HW9.out.2 Try.underlying36 rfl (by kernel_rfl)) rfl ⟨rfl, by rw [HW9.out.1]; exact below_setCells (by omega) _ _ _ HWL.out⟩
set_option maxRecDepth 100000 in
set_option maxHeartbeats 4000000 in
theorem Retire_bad (b : Nat) (s : LS) (q ep : Int) (hc : 0 < s.credit) (hq : U64 q) (he : ep = s.epoch) (p : Past) (ok : Bool) (hp : (look s.D q).getD ⟨0, 0, false⟩ = p) (hok : (look s.D q).isSome = ok) (hbad : ok = false ∨ p.held = true) (w : World) (h : Ln w b s) : Calls Try.prog 19 #[.pointer (some ⟨b, 0, none⟩), .agg (aTick q ep)] w fun e w' =>
    e = .returned (.tuple #[.agg (aSlot 0 0), .bool false, .int .i64 82]) ∧ Below w.heap.size w w' := by
  have e1 : (ep != s.epoch) = false := by simp [he]
  have HP := Aside0.mk hp
  have HO := Aside0.mk hok
  clear he hp hok
  have HQ := Aside0.mk hq
  have d1 : decide (s.credit > 0) = true := decide_eq_true hc
  have HB0 := Aside0.mk (((Bd.start h).alloc (.cells (aTick q ep) 34)).alloc (.cells (aSlot 0 0) 36))
  rw [show (w.alloc (.cells (aTick q ep) 34)).heap.size = w.heap.size + 1 from World.size_alloc _ _] at HB0
  have HW0 : Aside0 (Below w.heap.size w ((w.alloc (.cells (aTick q ep) 34)).alloc (.cells (aSlot 0 0) 36))) := ⟨((Below.refl _ _).alloc (Nat.le_refl _) _).alloc (by simp) _⟩
  clear h hc hq
  go_enter Try.func19, Try.ntmps19
  go_upto_region 1 with fail
  generalize (w.alloc (.cells (aTick q ep) 34)).alloc (.cells (aSlot 0 0) 36) = w1 at HB0 HW0 ⊢
  go_upto_region 3 with (go_at_call 34; refine (is_calls b s _ HB0.out.ln).mono ?_; rintro e1 w2 ⟨rfl, hw2⟩; have HB1 := Aside0.mk (HB0.out.below hw2); have HW1 := Aside0.mk (HW0.out.trans (hw2.mono HW0.out.size)); clear hw2)
  have t0 : w2.cell? ⟨w.heap.size, 0, none⟩ = some (.int .u64 q) := (HB1.out.ptr (List.mem_cons_of_mem _ List.mem_cons_self) 0).1
  have t1 : w2.cell? ⟨w.heap.size, 1, none⟩ = some (.int .u64 ep) := (HB1.out.ptr (List.mem_cons_of_mem _ List.mem_cons_self) 1).1
  have c9 : w2.cell? ⟨b, 328, none⟩ = some (.int .u64 s.epoch) := HB1.out.ln.cell 328 (by omega)
  go_quiet (fail)
  have HB2 : Aside0 (Bd b s.mb w s [(w.heap.size + 1, .cells (aSlot 0 0) 36), (w.heap.size, .cells (aTick q ep) 34)] (w2.drewN nq)) := ⟨HB1.out.below (pw_below_drewN (Below.refl _ _) nq)⟩
  have HW2 : Aside0 (Below w.heap.size w (w2.drewN nq)) := ⟨pw_below_drewN HW1.out nq⟩
  replace t0 : (w2.drewN nq).cell? ⟨w.heap.size, 0, none⟩ = some (.int .u64 q) := t0
  clear t1 c9 HB0 HB1 HW0 HW1
  generalize w2.drewN nq = w3 at HB2 HW2 t0 ⊢
  have c10 : w3.cell? ⟨b, 329, none⟩ = some (.map (some s.mb)) := HB2.out.ln.cell 329 (by omega)
  have HBB : Aside0 (b < w3.heap.size) := ⟨HB2.out.ln.lt⟩
  have HTT : Aside0 (w.heap.size < w3.heap.size) := ⟨(Array.getElem?_eq_some_iff.1 (HB2.out.obj (w.heap.size, _) (List.mem_cons_of_mem _ List.mem_cons_self)).1).1⟩
  have HRR : Aside0 (w.heap.size + 1 < w3.heap.size) := ⟨(Array.getElem?_eq_some_iff.1 (HB2.out.obj (w.heap.size + 1, _) List.mem_cons_self).1).1⟩
  have HLK : Aside0 (∀ w' : World, Below w3.heap.size w3 w' → (Instr.lookup 65 (.map (some s.mb)) (.int .u64 q) true).run Try.prog w' = .ok (.tuple #[.agg #[.int .i64 p.n, .int .u64 p.g, .bool p.held], .bool ok]) w') := ⟨fun w' hw' => by
    have hl := (own_look (ownsMap_of (w' := w') HB2.out.ln.map (hw'.block _ HB2.out.ln.map.lt)) HQ.out).1
    rw [hl, HP.out, HO.out]
    rfl⟩
  go_upto_region 5 with fail
  refine wp_region_held_drew (S := fun w' => Below w3.heap.size w3 w') (by kernel_rfl) (pw_below_drewN (Below.refl _ _) 1) (fun hHeld => ?_)
  refine take_at (i := 0) (v := _) 24 rfl rfl (by kernel_rfl) (by kernel_rfl) (by kernel_rfl) (fun _ _ _ h => h) (Or.inl ⟨by rfl, fun w' hW => by have hq0 := (hW.cell HBB.out).trans c10; have hq1 := (hW.cell HTT.out).trans t0; have hq2 := HLK.out w' hW; first | (go_simp; done) | (go_simp; with_reducible rfl) | (go_simp; rfl)⟩) hHeld ?_
  try simp only [Act.put, List.setIfInBounds_toArray, List.set_cons_zero, List.set_cons_succ]
  refine take_at (i := 1) (v := _) 25 rfl rfl (by kernel_rfl) (by kernel_rfl) (by kernel_rfl) (fun _ _ _ h => h) (Or.inl ⟨by rfl, fun w' hW => by have hq0 := (hW.cell HBB.out).trans c10; have hq1 := (hW.cell HTT.out).trans t0; have hq2 := HLK.out w' hW; first | (go_simp; done) | (go_simp; with_reducible rfl) | (go_simp; rfl)⟩) hHeld ?_
  try simp only [Act.put, List.setIfInBounds_toArray, List.set_cons_zero, List.set_cons_succ]
  refine take_at (i := 2) (v := _) 26 rfl rfl (by kernel_rfl) (by kernel_rfl) (by kernel_rfl) (fun _ _ _ h => h) (Or.inl ⟨by rfl, fun w' hW => by have hq0 := (hW.cell HBB.out).trans c10; have hq1 := (hW.cell HTT.out).trans t0; have hq2 := HLK.out w' hW; first | (go_simp; done) | (go_simp; with_reducible rfl) | (go_simp; rfl)⟩) hHeld ?_
  try simp only [Act.put, List.setIfInBounds_toArray, List.set_cons_zero, List.set_cons_succ]
  refine take_at (i := 3) (v := _) 27 rfl rfl (by kernel_rfl) (by kernel_rfl) (by kernel_rfl) (fun _ _ _ h => h) (Or.inl ⟨by rfl, fun w' hW => by have hq0 := (hW.cell HBB.out).trans c10; have hq1 := (hW.cell HTT.out).trans t0; have hq2 := HLK.out w' hW; first | (go_simp; done) | (go_simp; with_reducible rfl) | (go_simp; rfl)⟩) hHeld ?_
  try simp only [Act.put, List.setIfInBounds_toArray, List.set_cons_zero, List.set_cons_succ]
  refine take_at (i := 4) (v := _) 28 rfl rfl (by kernel_rfl) (by kernel_rfl) (by kernel_rfl) (fun _ _ _ h => h) (Or.inl ⟨by rfl, fun w' hW => by have hq0 := (hW.cell HBB.out).trans c10; have hq1 := (hW.cell HTT.out).trans t0; have hq2 := HLK.out w' hW; first | (go_simp; done) | (go_simp; with_reducible rfl) | (go_simp; rfl)⟩) hHeld ?_
  try simp only [Act.put, List.setIfInBounds_toArray, List.set_cons_zero, List.set_cons_succ]
  refine take_at (i := 5) (v := _) 29 rfl rfl (by kernel_rfl) (by kernel_rfl) (by kernel_rfl) (fun _ _ _ h => h) (Or.inl ⟨by rfl, fun w' hW => by have hq0 := (hW.cell HBB.out).trans c10; have hq1 := (hW.cell HTT.out).trans t0; have hq2 := HLK.out w' hW; first | (go_simp; done) | (go_simp; with_reducible rfl) | (go_simp; rfl)⟩) hHeld ?_
  try simp only [Act.put, List.setIfInBounds_toArray, List.set_cons_zero, List.set_cons_succ]
  refine take_at (i := 6) (v := _) 30 rfl rfl (by kernel_rfl) (by kernel_rfl) (by kernel_rfl) (fun _ _ _ h => h) (Or.inl ⟨by rfl, fun w' hW => by have hq0 := (hW.cell HBB.out).trans c10; have hq1 := (hW.cell HTT.out).trans t0; have hq2 := HLK.out w' hW; first | (go_simp; done) | (go_simp; with_reducible rfl) | (go_simp; rfl)⟩) hHeld ?_
  try simp only [Act.put, List.setIfInBounds_toArray, List.set_cons_zero, List.set_cons_succ]
  refine take_at (i := 7) (v := _) 23 rfl rfl (by kernel_rfl) (by kernel_rfl) (by kernel_rfl) (fun _ _ _ h => h) (Or.inl ⟨by rfl, fun w' hW => by have hq0 := (hW.cell HBB.out).trans c10; have hq1 := (hW.cell HTT.out).trans t0; have hq2 := HLK.out w' hW; first | (go_simp; done) | (go_simp; with_reducible rfl) | (go_simp; rfl)⟩) hHeld ?_
  try simp only [Act.put, List.setIfInBounds_toArray, List.set_cons_zero, List.set_cons_succ]
  refine take_at (i := 8) (v := _) 31 rfl rfl (by kernel_rfl) (by kernel_rfl) (by kernel_rfl) (fun _ _ _ h => h) (Or.inl ⟨by rfl, fun w' hW => by have hq0 := (hW.cell HBB.out).trans c10; have hq1 := (hW.cell HTT.out).trans t0; have hq2 := HLK.out w' hW; first | (go_simp; done) | (go_simp; with_reducible rfl) | (go_simp; rfl)⟩) hHeld ?_
  try simp only [Act.put, List.setIfInBounds_toArray, List.set_cons_zero, List.set_cons_succ]
  refine take_at (i := 9) (v := _) 32 rfl rfl (by kernel_rfl) (by kernel_rfl) (by kernel_rfl) (fun _ _ _ h => h) (Or.inl ⟨by rfl, fun w' hW => by have hq0 := (hW.cell HBB.out).trans c10; have hq1 := (hW.cell HTT.out).trans t0; have hq2 := HLK.out w' hW; first | (go_simp; done) | (go_simp; with_reducible rfl) | (go_simp; rfl)⟩) hHeld ?_
  try simp only [Act.put, List.setIfInBounds_toArray, List.set_cons_zero, List.set_cons_succ]
  clear hHeld
  refine wpAnyH_ready (rs := [10]) (by kernel_rfl) (by simp) ?_
  refine AllReadyH.cons rfl (fun K hK => ?_) AllReadyH.nil
  go_simp
  have HB3 : Aside0 (Bd b s.mb w s [(w3.heap.size, .cells #[.int .i64 0, .int .u64 0, .bool false] 79), (w.heap.size + 1, .cells (aSlot 0 0) 36), (w.heap.size, .cells (aTick q ep) 34)] ((w3.drew).alloc (.cells #[.int .i64 0, .int .u64 0, .bool false] 79))) := ⟨(HB2.out.below (Below.refl _ _).drew).alloc _⟩
  have HS3 : Aside0 (Below w3.heap.size w3 ((w3.drew).alloc (.cells #[.int .i64 0, .int .u64 0, .bool false] 79))) := ⟨(Below.refl _ _).drew.alloc (Nat.le_refl _) _⟩
  try change K _ ((w3.drew).alloc (.cells #[.int .i64 0, .int .u64 0, .bool false] 79))
  generalize (w3.drew).alloc (.cells #[.int .i64 0, .int .u64 0, .bool false] 79) = w4 at HB3 HS3 ⊢
  refine hK.out _ _ HS3.out (fun hHeld => ?_)
  clear hK K
  try simp only [Act.put, List.setIfInBounds_toArray, List.set_cons_zero, List.set_cons_succ]
  clear hHeld
  have hb3 := (HB3.out.obj (w3.heap.size, _) List.mem_cons_self).1
  refine wpAnyH_ready (rs := [11]) (by kernel_rfl) (by simp) ?_
  refine AllReadyH.cons rfl (fun K hK => ?_) AllReadyH.nil
  rw [if_pos (by rfl)]
  refine store_at rfl 79 (.tmp 7) (.tmp 31) rfl w3.heap.size 0 #[.int .i64 p.n, .int .u64 p.g, .bool p.held] rfl rfl (there_of_block hb3 0 3 (by simp)) (by kernel_rfl) (by simp [Value.oneCell']) ?_
  have HB4 : Aside0 (Bd b s.mb w s [(w3.heap.size, .cells #[.int .i64 p.n, .int .u64 p.g, .bool p.held] 79), (w.heap.size + 1, .cells (aSlot 0 0) 36), (w.heap.size, .cells (aTick q ep) 34)] (w4.setCells w3.heap.size 0 #[.int .i64 p.n, .int .u64 p.g, .bool p.held].toList)) := ⟨HB3.out.box w3.heap.size _ 79 List.mem_cons_self 0 _ (fun x hx => by
    simp only [List.mem_cons, List.not_mem_nil, or_false] at hx
    rcases hx with rfl | rfl | rfl
    · exact Or.inl rfl
    · exact Or.inr ⟨by simp, by have := HTT.out; have := HRR.out; simp only; omega⟩
    · exact Or.inr ⟨by simp, by have := HTT.out; simp only; omega⟩)⟩
  have HS4 : Aside0 (Below w3.heap.size w3 (w4.setCells w3.heap.size 0 #[.int .i64 p.n, .int .u64 p.g, .bool p.held].toList)) := ⟨below_setCells (Nat.le_refl _) _ _ _ HS3.out⟩
  clear hb3 HB3 HS3
  generalize w4.setCells w3.heap.size 0 #[.int .i64 p.n, .int .u64 p.g, .bool p.held].toList = w5 at HB4 HS4 ⊢
  refine hK.out _ _ HS4.out (fun hHeld => ?_)
  clear hK K
  try simp only [Act.put, List.setIfInBounds_toArray, List.set_cons_zero, List.set_cons_succ]
  refine take_at (i := 12) (v := _) 8 rfl rfl (by kernel_rfl) (by kernel_rfl) (by kernel_rfl) (fun _ _ _ h => h) (Or.inl ⟨by rfl, fun w' hW => by have hq0 := (hW.cell HBB.out).trans c10; have hq1 := (hW.cell HTT.out).trans t0; have hq2 := HLK.out w' hW; first | (go_simp; done) | (go_simp; with_reducible rfl) | (go_simp; rfl)⟩) hHeld ?_
  try simp only [Act.put, List.setIfInBounds_toArray, List.set_cons_zero, List.set_cons_succ]
  refine wpAnyH_done (by kernel_rfl) ?_ _
  clear hHeld
  have HWL : Aside0 (Below w.heap.size w w5) := ⟨HW2.out.trans (HS4.out.mono HW2.out.size)⟩
  have hr1 := (HB4.out.obj (w.heap.size + 1, .cells (aSlot 0 0) 36) (by simp)).1
  have p2 : w5.cell? ⟨w3.heap.size, 2, none⟩ = some (.bool p.held) := (HB4.out.ptr List.mem_cons_self 2).1
  rcases hbad with hb1 | hb1
  · subst hb1
    go_wp2_with ((with_reducible refine gate_store (t := 36) (p := 4) rfl ?_); refine store_blk rfl 36 (.tmp 4) (.tmp 40) rfl (w.heap.size + 1) 0 (aSlot 0 0) (aSlot 0 0) 36 rfl rfl hr1 (by simp) (by kernel_rfl) (by kernel_rfl) ?_; intro w9 hw9 hr9; have HW9 := Aside0.mk (And.intro hw9 hr9); clear hw9 hr9)
    exact bodyPost_ret (res_ctt (t := 36) rfl rfl rfl rfl HW9.out.2 Try.underlying36 rfl (by kernel_rfl)) rfl ⟨rfl, by rw [HW9.out.1]; exact below_setCells (by omega) _ _ _ HWL.out⟩
  · cases ok with
    | false =>
      go_wp2_with ((with_reducible refine gate_store (t := 36) (p := 4) rfl ?_); refine store_blk rfl 36 (.tmp 4) (.tmp 40) rfl (w.heap.size + 1) 0 (aSlot 0 0) (aSlot 0 0) 36 rfl rfl hr1 (by simp) (by kernel_rfl) (by kernel_rfl) ?_; intro w9 hw9 hr9; have HW9 := Aside0.mk (And.intro hw9 hr9); clear hw9 hr9)
      exact bodyPost_ret (res_ctt (t := 36) rfl rfl rfl rfl HW9.out.2 Try.underlying36 rfl (by kernel_rfl)) rfl ⟨rfl, by rw [HW9.out.1]; exact below_setCells (by omega) _ _ _ HWL.out⟩
    | true =>
      rw [hb1] at p2
      go_wp2_with ((with_reducible refine gate_store (t := 36) (p := 4) rfl ?_); refine store_blk rfl 36 (.tmp 4) (.tmp 40) rfl (w.heap.size + 1) 0 (aSlot 0 0) (aSlot 0 0) 36 rfl rfl hr1 (by simp) (by kernel_rfl) (by kernel_rfl) ?_; intro w9 hw9 hr9; have HW9 := Aside0.mk (And.intro hw9 hr9); clear hw9 hr9)
      exact bodyPost_ret (res_ctt (t := 36) rfl rfl rfl rfl HW9.out.2 Try.underlying36 rfl (by kernel_rfl)) rfl ⟨rfl, by rw [HW9.out.1]; exact below_setCells (by omega) _ _ _ HWL.out⟩
set_option maxRecDepth 100000 in
set_option maxHeartbeats 4000000 in
theorem Retire_two (b : Nat) (s : LS) (q ep : Int) (hc : 0 < s.credit) (hq : U64 q) (he : ep = s.epoch) (p : Past) (hp : look s.D q = some p) (hheld : p.held = false) (htwo : s.two = true) (hl0 : 0 ≤ s.left) (hl : s.left < 64) (w : World) (h : Ln w b s) : Calls Try.prog 19 #[.pointer (some ⟨b, 0, none⟩), .agg (aTick q ep)] w fun e w' =>
    e = .returned (.tuple #[.agg (aSlot p.n p.g), .bool true, .int .i64 0]) ∧ Ln w' b (ret2S s q) ∧ Far b s.mb w w' := by
  have e1 : (ep != s.epoch) = false := by simp [he]
  obtain ⟨ok, hok⟩ : ∃ ok, true = ok := ⟨_, rfl⟩
  have HP : Aside0 ((look s.D q).getD ⟨0, 0, false⟩ = p) := ⟨by rw [hp]; rfl⟩
  have HO : Aside0 ((look s.D q).isSome = ok) := ⟨by rw [hp, ← hok]; rfl⟩
  have HH := Aside0.mk hheld
  have HTW := Aside0.mk htwo
  have HL0 := Aside0.mk hl0
  have HL64 := Aside0.mk hl
  have HOK := Aside0.mk hok
  clear he hp hheld htwo hl0 hl hok
  have HQ := Aside0.mk hq
  have d1 : decide (s.credit > 0) = true := decide_eq_true hc
  have HB0 := Aside0.mk (((Bd.start h).alloc (.cells (aTick q ep) 34)).alloc (.cells (aSlot 0 0) 36))
  rw [show (w.alloc (.cells (aTick q ep) 34)).heap.size = w.heap.size + 1 from World.size_alloc _ _] at HB0
  have HW0 : Aside0 (Below w.heap.size w ((w.alloc (.cells (aTick q ep) 34)).alloc (.cells (aSlot 0 0) 36))) := ⟨((Below.refl _ _).alloc (Nat.le_refl _) _).alloc (by simp) _⟩
  clear h hc hq
  go_enter Try.func19, Try.ntmps19
  go_upto_region 1 with fail
  generalize (w.alloc (.cells (aTick q ep) 34)).alloc (.cells (aSlot 0 0) 36) = w1 at HB0 HW0 ⊢
  go_upto_region 3 with (go_at_call 34; refine (is_calls b s _ HB0.out.ln).mono ?_; rintro e1 w2 ⟨rfl, hw2⟩; have HB1 := Aside0.mk (HB0.out.below hw2); have HW1 := Aside0.mk (HW0.out.trans (hw2.mono HW0.out.size)); clear hw2)
  have t0 : w2.cell? ⟨w.heap.size, 0, none⟩ = some (.int .u64 q) := (HB1.out.ptr (List.mem_cons_of_mem _ List.mem_cons_self) 0).1
  have t1 : w2.cell? ⟨w.heap.size, 1, none⟩ = some (.int .u64 ep) := (HB1.out.ptr (List.mem_cons_of_mem _ List.mem_cons_self) 1).1
  have c9 : w2.cell? ⟨b, 328, none⟩ = some (.int .u64 s.epoch) := HB1.out.ln.cell 328 (by omega)
  go_quiet (fail)
  have HB2 : Aside0 (Bd b s.mb w s [(w.heap.size + 1, .cells (aSlot 0 0) 36), (w.heap.size, .cells (aTick q ep) 34)] (w2.drewN nq)) := ⟨HB1.out.below (pw_below_drewN (Below.refl _ _) nq)⟩
  have HW2 : Aside0 (Below w.heap.size w (w2.drewN nq)) := ⟨pw_below_drewN HW1.out nq⟩
  replace t0 : (w2.drewN nq).cell? ⟨w.heap.size, 0, none⟩ = some (.int .u64 q) := t0
  clear t1 c9 HB0 HB1 HW0 HW1
  generalize w2.drewN nq = w3 at HB2 HW2 t0 ⊢
  have c10 : w3.cell? ⟨b, 329, none⟩ = some (.map (some s.mb)) := HB2.out.ln.cell 329 (by omega)
  have HBB : Aside0 (b < w3.heap.size) := ⟨HB2.out.ln.lt⟩
  have HTT : Aside0 (w.heap.size < w3.heap.size) := ⟨(Array.getElem?_eq_some_iff.1 (HB2.out.obj (w.heap.size, _) (List.mem_cons_of_mem _ List.mem_cons_self)).1).1⟩
  have HRR : Aside0 (w.heap.size + 1 < w3.heap.size) := ⟨(Array.getElem?_eq_some_iff.1 (HB2.out.obj (w.heap.size + 1, _) List.mem_cons_self).1).1⟩
  have HLK : Aside0 (∀ w' : World, Below w3.heap.size w3 w' → (Instr.lookup 65 (.map (some s.mb)) (.int .u64 q) true).run Try.prog w' = .ok (.tuple #[.agg #[.int .i64 p.n, .int .u64 p.g, .bool p.held], .bool ok]) w') := ⟨fun w' hw' => by
    have hl := (own_look (ownsMap_of (w' := w') HB2.out.ln.map (hw'.block _ HB2.out.ln.map.lt)) HQ.out).1
    rw [hl, HP.out, HO.out]
    rfl⟩
  go_upto_region 5 with fail
  refine wp_region_held_drew (S := fun w' => Below w3.heap.size w3 w') (by kernel_rfl) (pw_below_drewN (Below.refl _ _) 1) (fun hHeld => ?_)
  refine take_at (i := 0) (v := _) 24 rfl rfl (by kernel_rfl) (by kernel_rfl) (by kernel_rfl) (fun _ _ _ h => h) (Or.inl ⟨by rfl, fun w' hW => by have hq0 := (hW.cell HBB.out).trans c10; have hq1 := (hW.cell HTT.out).trans t0; have hq2 := HLK.out w' hW; first | (go_simp; done) | (go_simp; with_reducible rfl) | (go_simp; rfl)⟩) hHeld ?_
  try simp only [Act.put, List.setIfInBounds_toArray, List.set_cons_zero, List.set_cons_succ]
  refine take_at (i := 1) (v := _) 25 rfl rfl (by kernel_rfl) (by kernel_rfl) (by kernel_rfl) (fun _ _ _ h => h) (Or.inl ⟨by rfl, fun w' hW => by have hq0 := (hW.cell HBB.out).trans c10; have hq1 := (hW.cell HTT.out).trans t0; have hq2 := HLK.out w' hW; first | (go_simp; done) | (go_simp; with_reducible rfl) | (go_simp; rfl)⟩) hHeld ?_
  try simp only [Act.put, List.setIfInBounds_toArray, List.set_cons_zero, List.set_cons_succ]
  refine take_at (i := 2) (v := _) 26 rfl rfl (by kernel_rfl) (by kernel_rfl) (by kernel_rfl) (fun _ _ _ h => h) (Or.inl ⟨by rfl, fun w' hW => by have hq0 := (hW.cell HBB.out).trans c10; have hq1 := (hW.cell HTT.out).trans t0; have hq2 := HLK.out w' hW; first | (go_simp; done) | (go_simp; with_reducible rfl) | (go_simp; rfl)⟩) hHeld ?_
  try simp only [Act.put, List.setIfInBounds_toArray, List.set_cons_zero, List.set_cons_succ]
  refine take_at (i := 3) (v := _) 27 rfl rfl (by kernel_rfl) (by kernel_rfl) (by kernel_rfl) (fun _ _ _ h => h) (Or.inl ⟨by rfl, fun w' hW => by have hq0 := (hW.cell HBB.out).trans c10; have hq1 := (hW.cell HTT.out).trans t0; have hq2 := HLK.out w' hW; first | (go_simp; done) | (go_simp; with_reducible rfl) | (go_simp; rfl)⟩) hHeld ?_
  try simp only [Act.put, List.setIfInBounds_toArray, List.set_cons_zero, List.set_cons_succ]
  refine take_at (i := 4) (v := _) 28 rfl rfl (by kernel_rfl) (by kernel_rfl) (by kernel_rfl) (fun _ _ _ h => h) (Or.inl ⟨by rfl, fun w' hW => by have hq0 := (hW.cell HBB.out).trans c10; have hq1 := (hW.cell HTT.out).trans t0; have hq2 := HLK.out w' hW; first | (go_simp; done) | (go_simp; with_reducible rfl) | (go_simp; rfl)⟩) hHeld ?_
  try simp only [Act.put, List.setIfInBounds_toArray, List.set_cons_zero, List.set_cons_succ]
  refine take_at (i := 5) (v := _) 29 rfl rfl (by kernel_rfl) (by kernel_rfl) (by kernel_rfl) (fun _ _ _ h => h) (Or.inl ⟨by rfl, fun w' hW => by have hq0 := (hW.cell HBB.out).trans c10; have hq1 := (hW.cell HTT.out).trans t0; have hq2 := HLK.out w' hW; first | (go_simp; done) | (go_simp; with_reducible rfl) | (go_simp; rfl)⟩) hHeld ?_
  try simp only [Act.put, List.setIfInBounds_toArray, List.set_cons_zero, List.set_cons_succ]
  refine take_at (i := 6) (v := _) 30 rfl rfl (by kernel_rfl) (by kernel_rfl) (by kernel_rfl) (fun _ _ _ h => h) (Or.inl ⟨by rfl, fun w' hW => by have hq0 := (hW.cell HBB.out).trans c10; have hq1 := (hW.cell HTT.out).trans t0; have hq2 := HLK.out w' hW; first | (go_simp; done) | (go_simp; with_reducible rfl) | (go_simp; rfl)⟩) hHeld ?_
  try simp only [Act.put, List.setIfInBounds_toArray, List.set_cons_zero, List.set_cons_succ]
  refine take_at (i := 7) (v := _) 23 rfl rfl (by kernel_rfl) (by kernel_rfl) (by kernel_rfl) (fun _ _ _ h => h) (Or.inl ⟨by rfl, fun w' hW => by have hq0 := (hW.cell HBB.out).trans c10; have hq1 := (hW.cell HTT.out).trans t0; have hq2 := HLK.out w' hW; first | (go_simp; done) | (go_simp; with_reducible rfl) | (go_simp; rfl)⟩) hHeld ?_
  try simp only [Act.put, List.setIfInBounds_toArray, List.set_cons_zero, List.set_cons_succ]
  refine take_at (i := 8) (v := _) 31 rfl rfl (by kernel_rfl) (by kernel_rfl) (by kernel_rfl) (fun _ _ _ h => h) (Or.inl ⟨by rfl, fun w' hW => by have hq0 := (hW.cell HBB.out).trans c10; have hq1 := (hW.cell HTT.out).trans t0; have hq2 := HLK.out w' hW; first | (go_simp; done) | (go_simp; with_reducible rfl) | (go_simp; rfl)⟩) hHeld ?_
  try simp only [Act.put, List.setIfInBounds_toArray, List.set_cons_zero, List.set_cons_succ]
  refine take_at (i := 9) (v := _) 32 rfl rfl (by kernel_rfl) (by kernel_rfl) (by kernel_rfl) (fun _ _ _ h => h) (Or.inl ⟨by rfl, fun w' hW => by have hq0 := (hW.cell HBB.out).trans c10; have hq1 := (hW.cell HTT.out).trans t0; have hq2 := HLK.out w' hW; first | (go_simp; done) | (go_simp; with_reducible rfl) | (go_simp; rfl)⟩) hHeld ?_
  try simp only [Act.put, List.setIfInBounds_toArray, List.set_cons_zero, List.set_cons_succ]
  clear hHeld
  refine wpAnyH_ready (rs := [10]) (by kernel_rfl) (by simp) ?_
  refine AllReadyH.cons rfl (fun K hK => ?_) AllReadyH.nil
  go_simp
  have HB3 : Aside0 (Bd b s.mb w s [(w3.heap.size, .cells #[.int .i64 0, .int .u64 0, .bool false] 79), (w.heap.size + 1, .cells (aSlot 0 0) 36), (w.heap.size, .cells (aTick q ep) 34)] ((w3.drew).alloc (.cells #[.int .i64 0, .int .u64 0, .bool false] 79))) := ⟨(HB2.out.below (Below.refl _ _).drew).alloc _⟩
  have HS3 : Aside0 (Below w3.heap.size w3 ((w3.drew).alloc (.cells #[.int .i64 0, .int .u64 0, .bool false] 79))) := ⟨(Below.refl _ _).drew.alloc (Nat.le_refl _) _⟩
  try change K _ ((w3.drew).alloc (.cells #[.int .i64 0, .int .u64 0, .bool false] 79))
  generalize (w3.drew).alloc (.cells #[.int .i64 0, .int .u64 0, .bool false] 79) = w4 at HB3 HS3 ⊢
  refine hK.out _ _ HS3.out (fun hHeld => ?_)
  clear hK K
  try simp only [Act.put, List.setIfInBounds_toArray, List.set_cons_zero, List.set_cons_succ]
  clear hHeld
  have hb3 := (HB3.out.obj (w3.heap.size, _) List.mem_cons_self).1
  refine wpAnyH_ready (rs := [11]) (by kernel_rfl) (by simp) ?_
  refine AllReadyH.cons rfl (fun K hK => ?_) AllReadyH.nil
  rw [if_pos (by rfl)]
  refine store_at rfl 79 (.tmp 7) (.tmp 31) rfl w3.heap.size 0 #[.int .i64 p.n, .int .u64 p.g, .bool p.held] rfl rfl (there_of_block hb3 0 3 (by simp)) (by kernel_rfl) (by simp [Value.oneCell']) ?_
  have HB4 : Aside0 (Bd b s.mb w s [(w3.heap.size, .cells #[.int .i64 p.n, .int .u64 p.g, .bool p.held] 79), (w.heap.size + 1, .cells (aSlot 0 0) 36), (w.heap.size, .cells (aTick q ep) 34)] (w4.setCells w3.heap.size 0 #[.int .i64 p.n, .int .u64 p.g, .bool p.held].toList)) := ⟨HB3.out.box w3.heap.size _ 79 List.mem_cons_self 0 _ (fun x hx => by
    simp only [List.mem_cons, List.not_mem_nil, or_false] at hx
    rcases hx with rfl | rfl | rfl
    · exact Or.inl rfl
    · exact Or.inr ⟨by simp, by have := HTT.out; have := HRR.out; simp only; omega⟩
    · exact Or.inr ⟨by simp, by have := HTT.out; simp only; omega⟩)⟩
  have HS4 : Aside0 (Below w3.heap.size w3 (w4.setCells w3.heap.size 0 #[.int .i64 p.n, .int .u64 p.g, .bool p.held].toList)) := ⟨below_setCells (Nat.le_refl _) _ _ _ HS3.out⟩
  clear hb3 HB3 HS3
  generalize w4.setCells w3.heap.size 0 #[.int .i64 p.n, .int .u64 p.g, .bool p.held].toList = w5 at HB4 HS4 ⊢
  refine hK.out _ _ HS4.out (fun hHeld => ?_)
  clear hK K
  try simp only [Act.put, List.setIfInBounds_toArray, List.set_cons_zero, List.set_cons_succ]
  refine take_at (i := 12) (v := _) 8 rfl rfl (by kernel_rfl) (by kernel_rfl) (by kernel_rfl) (fun _ _ _ h => h) (Or.inl ⟨by rfl, fun w' hW => by have hq0 := (hW.cell HBB.out).trans c10; have hq1 := (hW.cell HTT.out).trans t0; have hq2 := HLK.out w' hW; first | (go_simp; done) | (go_simp; with_reducible rfl) | (go_simp; rfl)⟩) hHeld ?_
  try simp only [Act.put, List.setIfInBounds_toArray, List.set_cons_zero, List.set_cons_succ]
  refine wpAnyH_done (by kernel_rfl) ?_ _
  clear hHeld
  have p0 : w5.cell? ⟨w3.heap.size, 0, none⟩ = some (.int .i64 p.n) := (HB4.out.ptr List.mem_cons_self 0).1
  have p1 : w5.cell? ⟨w3.heap.size, 1, none⟩ = some (.int .u64 p.g) := (HB4.out.ptr List.mem_cons_self 1).1
  have p2 : w5.cell? ⟨w3.heap.size, 2, none⟩ = some (.bool false) := (HB4.out.ptr List.mem_cons_self 2).1.trans (by rw [HH.out]; rfl)
  have c1 : w5.cell? ⟨b, 1, none⟩ = some (.bool s.two) := HB4.out.ln.cell 1 (by omega)
  rw [HTW.out] at c1
  replace c10 : w5.cell? ⟨b, 329, none⟩ = some (.map (some s.mb)) := HB4.out.ln.cell 329 (by omega)
  replace t0 : w5.cell? ⟨w.heap.size, 0, none⟩ = some (.int .u64 q) := (HB4.out.ptr (C := aTick q ep) (t := 34) (by simp) 0).1
  have hok := HOK.out
  subst hok
  have HG3 : Aside0 (w.heap.size + 1 < w3.heap.size) := HRR
  generalize w3.heap.size = g3 at HB4 p0 p1 p2 HG3 ⊢
  go_upto_region 9 with fail
  go_still_tail 6, rfl
  have HM4 : Aside0 (w5.ownsMap Try.prog 22 Rp s.mb s.n s.D) := ⟨HB4.out.ln.map⟩
  clear c1 c10 t0 p2
  go_upto_region 10 with (at_delete; refine wpList_delete_own _ rfl (.tmp 49) (.tmp 51) 65 22 rfl 79 keyed Try.underlying65 Rp s.mb s.n s.D rfl (ownsMap_of HM4.out rfl) _ (.int .u64 q) rfl (own_key HQ.out) ?_; intro w6 hown6 hgrow6; have HX6 := Aside0.mk (And.intro hown6 hgrow6); clear hown6 hgrow6)
  have HB5 : Aside0 (Bd b s.mb w { s with D := s.D.del (.int .u64 q) } [(g3, .cells #[.int .i64 p.n, .int .u64 p.g, .bool p.held] 79), (w.heap.size + 1, .cells (aSlot 0 0) 36), (w.heap.size, .cells (aTick q ep) 34)] w6) := ⟨(HB4.out.below (Below.refl _ _).drew).map HX6.out.2.grown HX6.out.1⟩
  clear HM4 HX6 HB4 p0 p1
  have c2 : w6.cell? ⟨b, 2, none⟩ = some (.int .i64 s.left) := HB5.out.ln.cell 2 (by omega)
  have f2 : w6.frozen? ⟨b, 2, none⟩ = false := HB5.out.ln.frozen 2
  have hw : wrap64 (s.left + 1) = s.left + 1 := by have := HL0.out; have := HL64.out; unfold wrap64; omega
  go_upto_region 11 with fail
  have HB6 : Aside0 (Bd b s.mb w (ret2S s q) [(g3, .cells #[.int .i64 p.n, .int .u64 p.g, .bool p.held] 79), (w.heap.size + 1, .cells (aSlot 0 0) 36), (w.heap.size, .cells (aTick q ep) 34)] (w6.setCell ⟨b, 2, none⟩ (.int .i64 (s.left + 1)))) := ⟨HB5.out.lane1 2 (.int .i64 (s.left + 1)) (by omega) (lval_left _ _) rfl rfl rfl⟩
  clear HB5 c2 f2
  generalize w6.setCell ⟨b, 2, none⟩ (.int .i64 (s.left + 1)) = w7 at HB6 ⊢
  have p0 : w7.cell? ⟨g3, 0, none⟩ = some (.int .i64 p.n) := (HB6.out.ptr List.mem_cons_self 0).1
  have p1 : w7.cell? ⟨g3, 1, none⟩ = some (.int .u64 p.g) := (HB6.out.ptr List.mem_cons_self 1).1
  have hr1 := (HB6.out.obj (w.heap.size + 1, .cells (aSlot 0 0) 36) (by simp)).1
  go_wp2_with ((with_reducible refine gate_store (t := 36) (p := 4) rfl ?_); refine store_blk rfl 36 (.tmp 4) (.tmp 60) rfl (w.heap.size + 1) 0 (aSlot p.n p.g) (aSlot 0 0) 36 rfl rfl hr1 (by simp) (by kernel_rfl) (by kernel_rfl) ?_; intro w9 hw9 hr9; have HW9 := Aside0.mk (And.intro hw9 hr9); clear hw9 hr9)
  have HB7 : Aside0 (Bd b s.mb w (ret2S s q) [] w9) := ⟨by
    rw [HW9.out.1]
    exact HB6.out.box (w.heap.size + 1) (aSlot 0 0) 36 (by simp) 0 _ (fun x hx => absurd hx (by simp))⟩
  exact bodyPost_ret (res_ctt (t := 36) rfl rfl rfl rfl HW9.out.2 Try.underlying36 rfl (by kernel_rfl)) rfl ⟨rfl, HB7.out.ln, HB7.out.far⟩
set_option maxRecDepth 100000 in
set_option maxHeartbeats 4000000 in
theorem Retire_one (b : Nat) (s : LS) (q ep : Int) (hc : 0 < s.credit) (hq : U64 q) (he : ep = s.epoch) (p : Past) (hp : look s.D q = some p) (hheld : p.held = false) (htwo : s.two = false) (hn : s.n < 1000000) (w : World) (h : Ln w b s) : Calls Try.prog 19 #[.pointer (some ⟨b, 0, none⟩), .agg (aTick q ep)] w fun e w' =>
    e = .returned (.tuple #[.agg (aSlot 0 0), .bool false, .int .i64 0]) ∧ Ln w' b (ret1S s q p) ∧ Far b s.mb w w' := by
  have e1 : (ep != s.epoch) = false := by simp [he]
  obtain ⟨ok, hok⟩ : ∃ ok, true = ok := ⟨_, rfl⟩
  have HP : Aside0 ((look s.D q).getD ⟨0, 0, false⟩ = p) := ⟨by rw [hp]; rfl⟩
  have HO : Aside0 ((look s.D q).isSome = ok) := ⟨by rw [hp, ← hok]; rfl⟩
  have HH := Aside0.mk hheld
  have HTW := Aside0.mk htwo
  have HN := Aside0.mk hn
  have HOK := Aside0.mk hok
  clear he hp hheld htwo hn hok
  have HQ := Aside0.mk hq
  have d1 : decide (s.credit > 0) = true := decide_eq_true hc
  have HB0 := Aside0.mk (((Bd.start h).alloc (.cells (aTick q ep) 34)).alloc (.cells (aSlot 0 0) 36))
  rw [show (w.alloc (.cells (aTick q ep) 34)).heap.size = w.heap.size + 1 from World.size_alloc _ _] at HB0
  have HW0 : Aside0 (Below w.heap.size w ((w.alloc (.cells (aTick q ep) 34)).alloc (.cells (aSlot 0 0) 36))) := ⟨((Below.refl _ _).alloc (Nat.le_refl _) _).alloc (by simp) _⟩
  clear h hc hq
  go_enter Try.func19, Try.ntmps19
  go_upto_region 1 with fail
  generalize (w.alloc (.cells (aTick q ep) 34)).alloc (.cells (aSlot 0 0) 36) = w1 at HB0 HW0 ⊢
  go_upto_region 3 with (go_at_call 34; refine (is_calls b s _ HB0.out.ln).mono ?_; rintro e1 w2 ⟨rfl, hw2⟩; have HB1 := Aside0.mk (HB0.out.below hw2); have HW1 := Aside0.mk (HW0.out.trans (hw2.mono HW0.out.size)); clear hw2)
  have t0 : w2.cell? ⟨w.heap.size, 0, none⟩ = some (.int .u64 q) := (HB1.out.ptr (List.mem_cons_of_mem _ List.mem_cons_self) 0).1
  have t1 : w2.cell? ⟨w.heap.size, 1, none⟩ = some (.int .u64 ep) := (HB1.out.ptr (List.mem_cons_of_mem _ List.mem_cons_self) 1).1
  have c9 : w2.cell? ⟨b, 328, none⟩ = some (.int .u64 s.epoch) := HB1.out.ln.cell 328 (by omega)
  go_quiet (fail)
  have HB2 : Aside0 (Bd b s.mb w s [(w.heap.size + 1, .cells (aSlot 0 0) 36), (w.heap.size, .cells (aTick q ep) 34)] (w2.drewN nq)) := ⟨HB1.out.below (pw_below_drewN (Below.refl _ _) nq)⟩
  have HW2 : Aside0 (Below w.heap.size w (w2.drewN nq)) := ⟨pw_below_drewN HW1.out nq⟩
  replace t0 : (w2.drewN nq).cell? ⟨w.heap.size, 0, none⟩ = some (.int .u64 q) := t0
  clear t1 c9 HB0 HB1 HW0 HW1
  generalize w2.drewN nq = w3 at HB2 HW2 t0 ⊢
  have c10 : w3.cell? ⟨b, 329, none⟩ = some (.map (some s.mb)) := HB2.out.ln.cell 329 (by omega)
  have HBB : Aside0 (b < w3.heap.size) := ⟨HB2.out.ln.lt⟩
  have HTT : Aside0 (w.heap.size < w3.heap.size) := ⟨(Array.getElem?_eq_some_iff.1 (HB2.out.obj (w.heap.size, _) (List.mem_cons_of_mem _ List.mem_cons_self)).1).1⟩
  have HRR : Aside0 (w.heap.size + 1 < w3.heap.size) := ⟨(Array.getElem?_eq_some_iff.1 (HB2.out.obj (w.heap.size + 1, _) List.mem_cons_self).1).1⟩
  have HLK : Aside0 (∀ w' : World, Below w3.heap.size w3 w' → (Instr.lookup 65 (.map (some s.mb)) (.int .u64 q) true).run Try.prog w' = .ok (.tuple #[.agg #[.int .i64 p.n, .int .u64 p.g, .bool p.held], .bool ok]) w') := ⟨fun w' hw' => by
    have hl := (own_look (ownsMap_of (w' := w') HB2.out.ln.map (hw'.block _ HB2.out.ln.map.lt)) HQ.out).1
    rw [hl, HP.out, HO.out]
    rfl⟩
  go_upto_region 5 with fail
  refine wp_region_held_drew (S := fun w' => Below w3.heap.size w3 w') (by kernel_rfl) (pw_below_drewN (Below.refl _ _) 1) (fun hHeld => ?_)
  refine take_at (i := 0) (v := _) 24 rfl rfl (by kernel_rfl) (by kernel_rfl) (by kernel_rfl) (fun _ _ _ h => h) (Or.inl ⟨by rfl, fun w' hW => by have hq0 := (hW.cell HBB.out).trans c10; have hq1 := (hW.cell HTT.out).trans t0; have hq2 := HLK.out w' hW; first | (go_simp; done) | (go_simp; with_reducible rfl) | (go_simp; rfl)⟩) hHeld ?_
  try simp only [Act.put, List.setIfInBounds_toArray, List.set_cons_zero, List.set_cons_succ]
  refine take_at (i := 1) (v := _) 25 rfl rfl (by kernel_rfl) (by kernel_rfl) (by kernel_rfl) (fun _ _ _ h => h) (Or.inl ⟨by rfl, fun w' hW => by have hq0 := (hW.cell HBB.out).trans c10; have hq1 := (hW.cell HTT.out).trans t0; have hq2 := HLK.out w' hW; first | (go_simp; done) | (go_simp; with_reducible rfl) | (go_simp; rfl)⟩) hHeld ?_
  try simp only [Act.put, List.setIfInBounds_toArray, List.set_cons_zero, List.set_cons_succ]
  refine take_at (i := 2) (v := _) 26 rfl rfl (by kernel_rfl) (by kernel_rfl) (by kernel_rfl) (fun _ _ _ h => h) (Or.inl ⟨by rfl, fun w' hW => by have hq0 := (hW.cell HBB.out).trans c10; have hq1 := (hW.cell HTT.out).trans t0; have hq2 := HLK.out w' hW; first | (go_simp; done) | (go_simp; with_reducible rfl) | (go_simp; rfl)⟩) hHeld ?_
  try simp only [Act.put, List.setIfInBounds_toArray, List.set_cons_zero, List.set_cons_succ]
  refine take_at (i := 3) (v := _) 27 rfl rfl (by kernel_rfl) (by kernel_rfl) (by kernel_rfl) (fun _ _ _ h => h) (Or.inl ⟨by rfl, fun w' hW => by have hq0 := (hW.cell HBB.out).trans c10; have hq1 := (hW.cell HTT.out).trans t0; have hq2 := HLK.out w' hW; first | (go_simp; done) | (go_simp; with_reducible rfl) | (go_simp; rfl)⟩) hHeld ?_
  try simp only [Act.put, List.setIfInBounds_toArray, List.set_cons_zero, List.set_cons_succ]
  refine take_at (i := 4) (v := _) 28 rfl rfl (by kernel_rfl) (by kernel_rfl) (by kernel_rfl) (fun _ _ _ h => h) (Or.inl ⟨by rfl, fun w' hW => by have hq0 := (hW.cell HBB.out).trans c10; have hq1 := (hW.cell HTT.out).trans t0; have hq2 := HLK.out w' hW; first | (go_simp; done) | (go_simp; with_reducible rfl) | (go_simp; rfl)⟩) hHeld ?_
  try simp only [Act.put, List.setIfInBounds_toArray, List.set_cons_zero, List.set_cons_succ]
  refine take_at (i := 5) (v := _) 29 rfl rfl (by kernel_rfl) (by kernel_rfl) (by kernel_rfl) (fun _ _ _ h => h) (Or.inl ⟨by rfl, fun w' hW => by have hq0 := (hW.cell HBB.out).trans c10; have hq1 := (hW.cell HTT.out).trans t0; have hq2 := HLK.out w' hW; first | (go_simp; done) | (go_simp; with_reducible rfl) | (go_simp; rfl)⟩) hHeld ?_
  try simp only [Act.put, List.setIfInBounds_toArray, List.set_cons_zero, List.set_cons_succ]
  refine take_at (i := 6) (v := _) 30 rfl rfl (by kernel_rfl) (by kernel_rfl) (by kernel_rfl) (fun _ _ _ h => h) (Or.inl ⟨by rfl, fun w' hW => by have hq0 := (hW.cell HBB.out).trans c10; have hq1 := (hW.cell HTT.out).trans t0; have hq2 := HLK.out w' hW; first | (go_simp; done) | (go_simp; with_reducible rfl) | (go_simp; rfl)⟩) hHeld ?_
  try simp only [Act.put, List.setIfInBounds_toArray, List.set_cons_zero, List.set_cons_succ]
  refine take_at (i := 7) (v := _) 23 rfl rfl (by kernel_rfl) (by kernel_rfl) (by kernel_rfl) (fun _ _ _ h => h) (Or.inl ⟨by rfl, fun w' hW => by have hq0 := (hW.cell HBB.out).trans c10; have hq1 := (hW.cell HTT.out).trans t0; have hq2 := HLK.out w' hW; first | (go_simp; done) | (go_simp; with_reducible rfl) | (go_simp; rfl)⟩) hHeld ?_
  try simp only [Act.put, List.setIfInBounds_toArray, List.set_cons_zero, List.set_cons_succ]
  refine take_at (i := 8) (v := _) 31 rfl rfl (by kernel_rfl) (by kernel_rfl) (by kernel_rfl) (fun _ _ _ h => h) (Or.inl ⟨by rfl, fun w' hW => by have hq0 := (hW.cell HBB.out).trans c10; have hq1 := (hW.cell HTT.out).trans t0; have hq2 := HLK.out w' hW; first | (go_simp; done) | (go_simp; with_reducible rfl) | (go_simp; rfl)⟩) hHeld ?_
  try simp only [Act.put, List.setIfInBounds_toArray, List.set_cons_zero, List.set_cons_succ]
  refine take_at (i := 9) (v := _) 32 rfl rfl (by kernel_rfl) (by kernel_rfl) (by kernel_rfl) (fun _ _ _ h => h) (Or.inl ⟨by rfl, fun w' hW => by have hq0 := (hW.cell HBB.out).trans c10; have hq1 := (hW.cell HTT.out).trans t0; have hq2 := HLK.out w' hW; first | (go_simp; done) | (go_simp; with_reducible rfl) | (go_simp; rfl)⟩) hHeld ?_
  try simp only [Act.put, List.setIfInBounds_toArray, List.set_cons_zero, List.set_cons_succ]
  clear hHeld
  refine wpAnyH_ready (rs := [10]) (by kernel_rfl) (by simp) ?_
  refine AllReadyH.cons rfl (fun K hK => ?_) AllReadyH.nil
  go_simp
  have HB3 : Aside0 (Bd b s.mb w s [(w3.heap.size, .cells #[.int .i64 0, .int .u64 0, .bool false] 79), (w.heap.size + 1, .cells (aSlot 0 0) 36), (w.heap.size, .cells (aTick q ep) 34)] ((w3.drew).alloc (.cells #[.int .i64 0, .int .u64 0, .bool false] 79))) := ⟨(HB2.out.below (Below.refl _ _).drew).alloc _⟩
  have HS3 : Aside0 (Below w3.heap.size w3 ((w3.drew).alloc (.cells #[.int .i64 0, .int .u64 0, .bool false] 79))) := ⟨(Below.refl _ _).drew.alloc (Nat.le_refl _) _⟩
  try change K _ ((w3.drew).alloc (.cells #[.int .i64 0, .int .u64 0, .bool false] 79))
  generalize (w3.drew).alloc (.cells #[.int .i64 0, .int .u64 0, .bool false] 79) = w4 at HB3 HS3 ⊢
  refine hK.out _ _ HS3.out (fun hHeld => ?_)
  clear hK K
  try simp only [Act.put, List.setIfInBounds_toArray, List.set_cons_zero, List.set_cons_succ]
  clear hHeld
  have hb3 := (HB3.out.obj (w3.heap.size, _) List.mem_cons_self).1
  refine wpAnyH_ready (rs := [11]) (by kernel_rfl) (by simp) ?_
  refine AllReadyH.cons rfl (fun K hK => ?_) AllReadyH.nil
  rw [if_pos (by rfl)]
  refine store_at rfl 79 (.tmp 7) (.tmp 31) rfl w3.heap.size 0 #[.int .i64 p.n, .int .u64 p.g, .bool p.held] rfl rfl (there_of_block hb3 0 3 (by simp)) (by kernel_rfl) (by simp [Value.oneCell']) ?_
  have HB4 : Aside0 (Bd b s.mb w s [(w3.heap.size, .cells #[.int .i64 p.n, .int .u64 p.g, .bool p.held] 79), (w.heap.size + 1, .cells (aSlot 0 0) 36), (w.heap.size, .cells (aTick q ep) 34)] (w4.setCells w3.heap.size 0 #[.int .i64 p.n, .int .u64 p.g, .bool p.held].toList)) := ⟨HB3.out.box w3.heap.size _ 79 List.mem_cons_self 0 _ (fun x hx => by
    simp only [List.mem_cons, List.not_mem_nil, or_false] at hx
    rcases hx with rfl | rfl | rfl
    · exact Or.inl rfl
    · exact Or.inr ⟨by simp, by have := HTT.out; have := HRR.out; simp only; omega⟩
    · exact Or.inr ⟨by simp, by have := HTT.out; simp only; omega⟩)⟩
  have HS4 : Aside0 (Below w3.heap.size w3 (w4.setCells w3.heap.size 0 #[.int .i64 p.n, .int .u64 p.g, .bool p.held].toList)) := ⟨below_setCells (Nat.le_refl _) _ _ _ HS3.out⟩
  clear hb3 HB3 HS3
  generalize w4.setCells w3.heap.size 0 #[.int .i64 p.n, .int .u64 p.g, .bool p.held].toList = w5 at HB4 HS4 ⊢
  refine hK.out _ _ HS4.out (fun hHeld => ?_)
  clear hK K
  try simp only [Act.put, List.setIfInBounds_toArray, List.set_cons_zero, List.set_cons_succ]
  refine take_at (i := 12) (v := _) 8 rfl rfl (by kernel_rfl) (by kernel_rfl) (by kernel_rfl) (fun _ _ _ h => h) (Or.inl ⟨by rfl, fun w' hW => by have hq0 := (hW.cell HBB.out).trans c10; have hq1 := (hW.cell HTT.out).trans t0; have hq2 := HLK.out w' hW; first | (go_simp; done) | (go_simp; with_reducible rfl) | (go_simp; rfl)⟩) hHeld ?_
  try simp only [Act.put, List.setIfInBounds_toArray, List.set_cons_zero, List.set_cons_succ]
  refine wpAnyH_done (by kernel_rfl) ?_ _
  clear hHeld
  have p0 : w5.cell? ⟨w3.heap.size, 0, none⟩ = some (.int .i64 p.n) := (HB4.out.ptr List.mem_cons_self 0).1
  have p1 : w5.cell? ⟨w3.heap.size, 1, none⟩ = some (.int .u64 p.g) := (HB4.out.ptr List.mem_cons_self 1).1
  have p2 : w5.cell? ⟨w3.heap.size, 2, none⟩ = some (.bool false) := (HB4.out.ptr List.mem_cons_self 2).1.trans (by rw [HH.out]; rfl)
  have c1 : w5.cell? ⟨b, 1, none⟩ = some (.bool s.two) := HB4.out.ln.cell 1 (by omega)
  rw [HTW.out] at c1
  replace c10 : w5.cell? ⟨b, 329, none⟩ = some (.map (some s.mb)) := HB4.out.ln.cell 329 (by omega)
  replace t0 : w5.cell? ⟨w.heap.size, 0, none⟩ = some (.int .u64 q) := (HB4.out.ptr (C := aTick q ep) (t := 34) (by simp) 0).1
  have hok := HOK.out
  subst hok
  have HG3 : Aside0 (w.heap.size + 1 < w3.heap.size) := HRR
  have q2 := (HB4.out.ptr (List.mem_cons_self : (w3.heap.size, Obj.cells #[.int .i64 p.n, .int .u64 p.g, .bool p.held] 79) ∈ _) 2).2
  generalize w3.heap.size = g3 at HB4 p0 p1 p2 q2 HG3 ⊢
  go_upto_region 13 with fail
  have HB5 : Aside0 (Bd b s.mb w s [(g3, .cells #[.int .i64 p.n, .int .u64 p.g, .bool true] 79), (w.heap.size + 1, .cells (aSlot 0 0) 36), (w.heap.size, .cells (aTick q ep) 34)] (w5.setCell ⟨g3, 2, none⟩ (.bool true))) := ⟨HB4.out.box g3 _ 79 List.mem_cons_self 2 [.bool true] (fun x hx => by
    simp only [List.mem_cons, List.not_mem_nil, or_false] at hx
    have := HG3.out
    rcases hx with rfl | rfl | rfl
    · exact Or.inl rfl
    · exact Or.inr ⟨by simp, by simp only; omega⟩
    · exact Or.inr ⟨by simp, by simp only; omega⟩)⟩
  clear HB4 p0 p1 p2 q2 c1 c10 t0
  generalize w5.setCell ⟨g3, 2, none⟩ (.bool true) = w6 at HB5 ⊢
  have p0 : w6.cell? ⟨g3, 0, none⟩ = some (.int .i64 p.n) := (HB5.out.ptr List.mem_cons_self 0).1
  have p1 : w6.cell? ⟨g3, 1, none⟩ = some (.int .u64 p.g) := (HB5.out.ptr List.mem_cons_self 1).1
  have p2 : w6.cell? ⟨g3, 2, none⟩ = some (.bool true) := (HB5.out.ptr List.mem_cons_self 2).1
  have c10 : w6.cell? ⟨b, 329, none⟩ = some (.map (some s.mb)) := HB5.out.ln.cell 329 (by omega)
  have t0 : w6.cell? ⟨w.heap.size, 0, none⟩ = some (.int .u64 q) := (HB5.out.ptr (C := aTick q ep) (t := 34) (by simp) 0).1
  have HM4 : Aside0 (w6.ownsMap Try.prog 22 Rp s.mb s.n s.D) := ⟨HB5.out.ln.map⟩
  go_still_tail 7, rfl
  clear p0 p1 p2 c10 t0
  go_upto_region 14 with (at_mapUpdate; refine wpList_mapUpdate_own _ rfl (.tmp 65) (.tmp 67) (.tmp 68) 65 rfl 22 79 keyed Try.underlying65 Rp s.mb s.n s.D rfl (ownsMap_of HM4.out rfl) (by have := HN.out; unfold maxLen; omega) _ _ (.int .u64 q) rfl rfl (own_key HQ.out) (.held ⟨p.n, p.g, true⟩) [] rfl ?_; intro w7 hown7 hgrow7; have HX7 := Aside0.mk (And.intro hown7 hgrow7); clear hown7 hgrow7)
  have HB6 : Aside0 (Bd b s.mb w (ret1S s q p) [(g3, .cells #[.int .i64 p.n, .int .u64 p.g, .bool true] 79), (w.heap.size + 1, .cells (aSlot 0 0) 36), (w.heap.size, .cells (aTick q ep) 34)] w7) := ⟨(HB5.out.below (Below.refl _ _).drew).map HX7.out.2 HX7.out.1⟩
  have hr1 := (HB6.out.obj (w.heap.size + 1, .cells (aSlot 0 0) 36) (by simp)).1
  clear HB5 HX7 HM4
  go_wp2_with ((with_reducible refine gate_store (t := 36) (p := 4) rfl ?_); refine store_blk rfl 36 (.tmp 4) (.tmp 69) rfl (w.heap.size + 1) 0 (aSlot 0 0) (aSlot 0 0) 36 rfl rfl hr1 (by simp) (by kernel_rfl) (by kernel_rfl) ?_; intro w9 hw9 hr9; have HW9 := Aside0.mk (And.intro hw9 hr9); clear hw9 hr9)
  have HB7 : Aside0 (Bd b s.mb w (ret1S s q p) [] w9) := ⟨by
    rw [HW9.out.1]
    exact HB6.out.box (w.heap.size + 1) (aSlot 0 0) 36 (by simp) 0 _ (fun x hx => absurd hx (by simp))⟩
  exact bodyPost_ret (res_ctt (t := 36) rfl rfl rfl rfl HW9.out.2 Try.underlying36 rfl (by kernel_rfl)) rfl ⟨rfl, HB7.out.ln, HB7.out.far⟩
end Go.Proofs.Ytglekbbdbnpohaa.QLn
