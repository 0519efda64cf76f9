/- Lane: Take. -/
import Derived.Test.YtglekbbdbnpohaaKLn
import Derived.StillTailTactics
namespace Go.Proofs.Ytglekbbdbnpohaa.QLn
open Go.RowKit Go.Proofs.YtglekbbdbnpohaaW.PrintWords Go.Proofs.YtglekbbdbnpohaaW.PrintLast Go.Proofs.YtglekbbdbnpohaaW.PrintMore
set_option linter.unusedVariables false
set_option linter.unusedSimpArgs false
def takeS (s : LS) : LS := { s with ring := upd s.ring (pl s s.head) ⟨0, 0, 0, 0, 0⟩, head := IntKind.u64.wrap (s.head + 1), n := s.n + 1, D := s.D.put (.int .u64 s.head) (.held ⟨(s.ring (pl s s.head)).n, (s.ring (pl s s.head)).g, false⟩) }
theorem Take_none (b : Nat) (s : LS) (hc : 0 < s.credit) (hh : U64 s.head) (he : s.head = s.ready) (hp : Pw s.size) (w : World) (h : Ln w b s) : Calls Try.prog 17 #[.pointer (some ⟨b, 0, none⟩)] w fun e w' =>
    e = .returned (.tuple #[.agg (aSlot 0 0), .agg (aTick 0 0), .int .i64 82]) ∧ Below w.heap.size w w' := by
  have HH := Aside0.mk hh
  have HP := Aside0.mk hp
  have HC := Aside0.mk hc
  have HF : Aside0 (firstF s = .tuple #[.agg (aStamp 0 0), .agg (aTick 0 0), .bool false]) := ⟨by unfold firstF; rw [if_pos he]⟩
  have d1 : decide (s.credit > 0) = true := decide_eq_true hc
  have HB0 := Aside0.mk (((Bd.start h).alloc (.cells (aSlot 0 0) 36)).alloc (.cells (aTick 0 0) 34))
  rw [show (w.alloc (.cells (aSlot 0 0) 36)).heap.size = w.heap.size + 1 from World.size_alloc _ _] at HB0
  have HW0 : Aside0 (Below w.heap.size w ((w.alloc (.cells (aSlot 0 0) 36)).alloc (.cells (aTick 0 0) 34))) := ⟨((Below.refl _ _).alloc (Nat.le_refl _) _).alloc (by simp) _⟩
  have hr0 := (HB0.out.obj (w.heap.size, _) (List.mem_cons_of_mem _ List.mem_cons_self)).1
  have hr1 := (HB0.out.obj (w.heap.size + 1, _) List.mem_cons_self).1
  clear h hc hh hp he
  go_enter Try.func17, Try.ntmps17
  go_upto_region 1 with fail
  generalize (w.alloc (.cells (aSlot 0 0) 36)).alloc (.cells (aTick 0 0) 34) = w1 at HB0 HW0 hr0 hr1 ⊢
  go_upto_region 3 with (go_at_call 34; refine (is_calls b s _ HB0.out.ln).mono ?_; rintro e1 w2 ⟨rfl, hw2⟩; have HB1 := Aside0.mk (HB0.out.below hw2); have HW1 := Aside0.mk (HW0.out.trans (hw2.mono HW0.out.size)); replace hr0 := obj_below hw2 hr0; replace hr1 := obj_below hw2 hr1; clear hw2)
  go_upto_region 5 with (go_at_call 23; refine (First_calls b s HC.out HH.out HP.out _ HB1.out.ln).mono ?_; rewrite [HF.out]; rintro e1 w3 ⟨rfl, hw3⟩; have HW2 := Aside0.mk (HW1.out.trans (hw3.mono HW1.out.size)); replace hr0 := obj_below hw3 hr0; replace hr1 := obj_below hw3 hr1; clear hw3)
  replace hr0 : ((w3.alloc (.cells #[.int .i64 0, .int .i64 0] 38)).alloc (.cells #[.int .u64 0, .int .u64 0] 34)).heap[w.heap.size]? = some (.cells (aSlot 0 0) 36 (0, 0)) := obj_below ((Below.refl _ _).alloc (Nat.le_refl _) _) (obj_below ((Below.refl _ _).alloc (Nat.le_refl _) _) hr0)
  replace hr1 : ((w3.alloc (.cells #[.int .i64 0, .int .i64 0] 38)).alloc (.cells #[.int .u64 0, .int .u64 0] 34)).heap[w.heap.size + 1]? = some (.cells (aTick 0 0) 34 (0, 0)) := obj_below ((Below.refl _ _).alloc (Nat.le_refl _) _) (obj_below ((Below.refl _ _).alloc (Nat.le_refl _) _) hr1)
  have HW3 : Aside0 (Below w.heap.size w ((w3.alloc (.cells #[.int .i64 0, .int .i64 0] 38)).alloc (.cells #[.int .u64 0, .int .u64 0] 34))) := ⟨(HW2.out.alloc HW2.out.size _).alloc (by have := HW2.out.size; simp; omega) _⟩
  clear HW2 HW1 HB1
  generalize (w3.alloc (.cells #[.int .i64 0, .int .i64 0] 38)).alloc (.cells #[.int .u64 0, .int .u64 0] 34) = w4 at hr0 hr1 HW3 ⊢
  go_wp2_with (first | ((with_reducible refine gate_store (t := 36) (p := 2) rfl ?_); refine store_blk rfl 36 (.tmp 2) (.tmp 22) rfl w.heap.size 0 (aSlot 0 0) (aSlot 0 0) 36 rfl rfl hr0 (by simp) (by kernel_rfl) (by kernel_rfl) ?_; intro w7 hw7 hr7; have HW7 := Aside0.mk (And.intro hw7 hr7); have hr2 : w7.heap[w.heap.size + 1]? = some (.cells (aTick 0 0) 34 (0, 0)) := (by rw [hw7, far_setCells (by omega)]; exact hr1); clear hw7 hr7) | ((with_reducible refine gate_store (t := 34) (p := 3) rfl ?_); refine store_blk rfl 34 (.tmp 3) (.tmp 23) rfl (w.heap.size + 1) 0 (aTick 0 0) (aTick 0 0) 34 rfl rfl hr2 (by simp) (by kernel_rfl) (by kernel_rfl) ?_; intro w8 hw8 hr8; have HW8 := Aside0.mk (And.intro hw8 hr8); clear hw8 hr8))
  exact bodyPost_ret (res_cct (t := 36) (t2 := 34) rfl rfl rfl rfl (by rw [HW8.out.1, far_setCells (by omega)]; exact HW7.out.2) HW8.out.2 Try.underlying36 rfl (by kernel_rfl) Try.underlying34 rfl (by kernel_rfl)) rfl ⟨rfl, by rw [HW8.out.1]; refine below_setCells (by omega) _ _ _ ?_; rw [HW7.out.1]; exact below_setCells (Nat.le_refl _) _ _ _ HW3.out⟩
set_option maxRecDepth 100000 in
set_option maxHeartbeats 4000000 in
theorem Take_calls (b : Nat) (s : LS) (hc : 0 < s.credit) (hh : U64 s.head) (he : s.head ≠ s.ready) (hp : Pw s.size) (hn : s.n < 1000000) (w : World) (h : Ln w b s) : Calls Try.prog 17 #[.pointer (some ⟨b, 0, none⟩)] w fun e w' =>
    e = .returned (.tuple #[.agg (aSlot (s.ring (pl s s.head)).n (s.ring (pl s s.head)).g), .agg (aTick s.head s.epoch), .int .i64 0]) ∧ Ln w' b (takeS s) ∧ Far b s.mb w w' := by
  have HH := Aside0.mk hh
  have HP := Aside0.mk hp
  have HC := Aside0.mk hc
  have HN := Aside0.mk hn
  have HIM : Aside0 (Go.Maps.IsMap s.D) := ⟨h.map.isMap⟩
  have hi := pl_lt hp s.head
  have HI : Aside0 (pl s s.head < 64) := ⟨hi⟩
  obtain ⟨e, hE⟩ : ∃ e, s.ring (pl s s.head) = e := ⟨_, rfl⟩
  have HE := Aside0.mk hE
  have HF : Aside0 (firstF s = .tuple #[.agg (aStamp e.tk e.st), .agg (aTick s.head s.epoch), .bool true]) := ⟨by unfold firstF; rw [if_neg he, hE]⟩
  rw [hE]
  clear hE
  have d1 : decide (s.credit > 0) = true := decide_eq_true hc
  have HB0 := Aside0.mk (((Bd.start h).alloc (.cells (aSlot 0 0) 36)).alloc (.cells (aTick 0 0) 34))
  rw [show (w.alloc (.cells (aSlot 0 0) 36)).heap.size = w.heap.size + 1 from World.size_alloc _ _] at HB0
  clear h hc hh hp he hn hi
  go_enter Try.func17, Try.ntmps17
  go_upto_region 1 with fail
  generalize (w.alloc (.cells (aSlot 0 0) 36)).alloc (.cells (aTick 0 0) 34) = w1 at HB0 ⊢
  go_upto_region 3 with (go_at_call 34; refine (is_calls b s _ HB0.out.ln).mono ?_; rintro e1 w2 ⟨rfl, hw2⟩; have HB1 := Aside0.mk (HB0.out.below hw2); clear hw2)
  go_upto_region 6 with (go_at_call 23; refine (First_calls b s HC.out HH.out HP.out _ HB1.out.ln).mono ?_; rewrite [HF.out]; rintro e1 w3 ⟨rfl, hw3⟩; have HB2 := Aside0.mk (HB1.out.below hw3); clear hw3)
  have HB3 := Aside0.mk ((HB2.out.alloc (.cells (aStamp e.tk e.st) 38)).alloc (.cells (aTick s.head s.epoch) 34))
  rw [show (w3.alloc (.cells (aStamp e.tk e.st) 38)).heap.size = w3.heap.size + 1 from World.size_alloc _ _] at HB3
  have hg : w.heap.size + 1 < w3.heap.size := (Array.getElem?_eq_some_iff.1 (HB2.out.obj (w.heap.size + 1, _) List.mem_cons_self).1).1
  clear HB0 HB1 HB2
  generalize (w3.alloc (.cells (aStamp e.tk e.st) 38)).alloc (.cells (aTick s.head s.epoch) 34) = w4 at HB3 ⊢
  generalize w3.heap.size = gg at HB3 hg ⊢
  have HG := Aside0.mk hg
  clear hg
  have c6 : w4.cell? ⟨b, 325, none⟩ = some (.int .u64 s.head) := HB3.out.ln.cell 325 (by omega)
  go_upto_region 7 with (go_at_call 35; refine (at_calls b s s.head HH.out HP.out _ HB3.out.ln).mono ?_; rintro e1 w5 ⟨rfl, hw5⟩; have HB4 := Aside0.mk (HB3.out.below hw5); clear hw5)
  clear c6 HB3
  have c6 : w5.cell? ⟨b, 325, none⟩ = some (.int .u64 s.head) := HB4.out.ln.cell 325 (by omega)
  have c10 : w5.cell? ⟨b, 329, none⟩ = some (.map (some s.mb)) := HB4.out.ln.cell 329 (by omega)
  obtain ⟨x0, x1, x2, x3, x4⟩ := HB4.out.ecells HI.out
  rw [HE.out] at x1 x2
  change w5.cell? ⟨b, 4 + (s.head % s.size).toNat * 5 + 1, none⟩ = _ at x1
  change w5.cell? ⟨b, 4 + (s.head % s.size).toNat * 5 + 2, none⟩ = _ at x2
  clear x0 x3 x4
  go_still_tail 13, rfl
  have HM4 : Aside0 (w5.ownsMap Try.prog 22 Rp s.mb s.n s.D) := ⟨HB4.out.ln.map⟩
  clear c6 c10 x1 x2
  go_upto_region 8 with (at_mapUpdate; refine wpList_mapUpdate_own _ rfl (.tmp 33) (.tmp 37) (.tmp 42) 65 rfl 22 79 keyed Try.underlying65 Rp s.mb s.n s.D rfl (ownsMap_of HM4.out rfl) (by have := HN.out; unfold maxLen; omega) _ _ (.int .u64 s.head) rfl rfl (own_key HH.out) (.held ⟨e.n, e.g, false⟩) [] rfl ?_; intro w6 hown6 hgrow6; have HX6 := Aside0.mk (And.intro hown6 hgrow6); clear hown6 hgrow6)
  have HB5 : Aside0 (Bd b s.mb w { s with n := s.n + 1, D := s.D.put (.int .u64 s.head) (.held ⟨e.n, e.g, false⟩) } [(gg + 1, .cells (aTick s.head s.epoch) 34), (gg, .cells (aStamp e.tk e.st) 38), (w.heap.size + 1, .cells (aTick 0 0) 34), (w.heap.size, .cells (aSlot 0 0) 36)] w6) := ⟨(HB4.out.below (Below.refl _ _).drew).map HX6.out.2 HX6.out.1⟩
  clear HM4 HX6 HB4
  go_upto_region 9 with ((with_reducible refine gate_store (t := 63) (p := 45) rfl ?_); refine store_ln rfl 63 (.tmp 45) (.tmp 44) rfl b (4 + (s.head % s.size).toNat * 5) #[.int .i64 0, .int .i64 0, .int .u64 0, .int .i64 0, .int .i64 0] _ rfl rfl HB5.out.ln (by have := HI.out; unfold pl at this; simp; omega) (by kernel_rfl) (by kernel_rfl) ?_; intro w7 hw7; have HW7 := Aside0.mk hw7; clear hw7)
  have HB6 : Aside0 (Bd b s.mb w { s with n := s.n + 1, D := s.D.put (.int .u64 s.head) (.held ⟨e.n, e.g, false⟩), ring := upd s.ring (pl s s.head) ⟨0, 0, 0, 0, 0⟩ } [(gg + 1, .cells (aTick s.head s.epoch) 34), (gg, .cells (aStamp e.tk e.st) 38), (w.heap.size + 1, .cells (aTick 0 0) 34), (w.heap.size, .cells (aSlot 0 0) 36)] w7) := ⟨by
    rw [HW7.out]
    exact HB5.out.ent (pl s s.head) HI.out ⟨0, 0, 0, 0, 0⟩ 0 _ (by simp) (fun j hj => by
      have : j = 0 ∨ j = 1 ∨ j = 2 ∨ j = 3 ∨ j = 4 := by omega
      rcases this with rfl | rfl | rfl | rfl | rfl <;> rfl)⟩
  clear HB5 HW7
  have c6 : w7.cell? ⟨b, 325, none⟩ = some (.int .u64 s.head) := HB6.out.ln.cell 325 (by omega)
  have f6 : w7.frozen? ⟨b, 325, none⟩ = false := HB6.out.ln.frozen 325
  go_upto_region 10 with fail
  have HB7 : Aside0 (Bd b s.mb w (takeS s) [(gg + 1, .cells (aTick s.head s.epoch) 34), (gg, .cells (aStamp e.tk e.st) 38), (w.heap.size + 1, .cells (aTick 0 0) 34), (w.heap.size, .cells (aSlot 0 0) 36)] (w7.setCell ⟨b, 325, none⟩ (.int .u64 (IntKind.u64.wrap (s.head + 1))))) := ⟨by
    have h := HB6.out.lane1 325 (.int .u64 (IntKind.u64.wrap (s.head + 1))) (by omega) (lval_head _ _) rfl rfl rfl
    unfold takeS
    rw [HE.out]
    exact h⟩
  clear HB6 c6 f6
  generalize w7.setCell ⟨b, 325, none⟩ (.int .u64 (IntKind.u64.wrap (s.head + 1))) = w8 at HB7 ⊢
  have c10 : w8.cell? ⟨b, 329, none⟩ = some (.map (some s.mb)) := HB7.out.ln.cell 329 (by omega)
  have HBL : Aside0 (b < w.heap.size) := ⟨HB7.out.hb⟩
  have HBM : Aside0 (s.mb < w.heap.size) := ⟨HB7.out.hm⟩
  have HLK : Aside0 (∀ w' : World, Below w.heap.size w8 w' → (Instr.lookup 65 (.map (some s.mb)) (.int .u64 s.head) false).run Try.prog w' = .ok (.agg #[.int .i64 e.n, .int .u64 e.g, .bool false]) w') := ⟨fun w' hw' => by
    have hm : w8.ownsMap Try.prog 22 Rp s.mb (s.n + 1) (takeS s).D := HB7.out.ln.map
    have hl := (own_look (ownsMap_of (w' := w') hm (hw'.block _ HBM.out)) HH.out).2
    rw [hl]
    unfold takeS
    rw [HE.out]
    have hD : Go.Maps.IsMap s.D := HIM.out
    simp only [look_put_same hD]
    rfl⟩
  have tkh := Aside0.mk (HB7.out.obj (gg + 1, _) List.mem_cons_self).1
  have HR0 := Aside0.mk (HB7.out.obj (w.heap.size, .cells (aSlot 0 0) 36) (by simp)).1
  have HR1 := Aside0.mk (HB7.out.obj (w.heap.size + 1, .cells (aTick 0 0) 34) (by simp)).1
  have tk0 : ∀ w' : World, w'.heap[gg + 1]? = some (.cells (aTick s.head s.epoch) 34 (0, 0)) → w'.cell? ⟨gg + 1, 0, none⟩ = some (.int .u64 s.head) := fun w' h => by simp only [World.cell?, h]; rfl
  have tk1 : ∀ w' : World, w'.heap[gg + 1]? = some (.cells (aTick s.head s.epoch) 34 (0, 0)) → w'.cell? ⟨gg + 1, 1, none⟩ = some (.int .u64 s.epoch) := fun w' h => by simp only [World.cell?, h]; rfl
  refine wp_region_held_drew (S := fun w' => Below w.heap.size w8 w' ∧ w'.heap[gg + 1]? = some (.cells (aTick s.head s.epoch) 34 (0, 0))) (by kernel_rfl) ⟨pw_below_drewN (Below.refl _ _) 1, tkh.out⟩ (fun hHeld => ?_)
  refine take_at (i := 0) (v := _) 53 rfl rfl (by kernel_rfl) (by kernel_rfl) (by kernel_rfl) (fun _ _ _ h => h) (Or.inl ⟨by rfl, fun w' hW => by have hq0 := (hW.1.cell HBL.out).trans c10; have hq1 := HLK.out w' hW.1; have hq2 := tk0 w' hW.2; have hq3 := tk1 w' hW.2; first | (go_simp; done) | (go_simp; with_reducible rfl) | (go_simp; rfl)⟩) hHeld ?_
  try simp only [Act.put, List.setIfInBounds_toArray, List.set_cons_zero, List.set_cons_succ]
  refine take_at (i := 1) (v := _) 54 rfl rfl (by kernel_rfl) (by kernel_rfl) (by kernel_rfl) (fun _ _ _ h => h) (Or.inl ⟨by rfl, fun w' hW => by have hq0 := (hW.1.cell HBL.out).trans c10; have hq1 := HLK.out w' hW.1; have hq2 := tk0 w' hW.2; have hq3 := tk1 w' hW.2; first | (go_simp; done) | (go_simp; with_reducible rfl) | (go_simp; rfl)⟩) hHeld ?_
  try simp only [Act.put, List.setIfInBounds_toArray, List.set_cons_zero, List.set_cons_succ]
  refine take_at (i := 2) (v := _) 55 rfl rfl (by kernel_rfl) (by kernel_rfl) (by kernel_rfl) (fun _ _ _ h => h) (Or.inl ⟨by rfl, fun w' hW => by have hq0 := (hW.1.cell HBL.out).trans c10; have hq1 := HLK.out w' hW.1; have hq2 := tk0 w' hW.2; have hq3 := tk1 w' hW.2; first | (go_simp; done) | (go_simp; with_reducible rfl) | (go_simp; rfl)⟩) hHeld ?_
  try simp only [Act.put, List.setIfInBounds_toArray, List.set_cons_zero, List.set_cons_succ]
  refine take_at (i := 3) (v := _) 56 rfl rfl (by kernel_rfl) (by kernel_rfl) (by kernel_rfl) (fun _ _ _ h => h) (Or.inl ⟨by rfl, fun w' hW => by have hq0 := (hW.1.cell HBL.out).trans c10; have hq1 := HLK.out w' hW.1; have hq2 := tk0 w' hW.2; have hq3 := tk1 w' hW.2; first | (go_simp; done) | (go_simp; with_reducible rfl) | (go_simp; rfl)⟩) hHeld ?_
  try simp only [Act.put, List.setIfInBounds_toArray, List.set_cons_zero, List.set_cons_succ]
  refine take_at (i := 4) (v := _) 57 rfl rfl (by kernel_rfl) (by kernel_rfl) (by kernel_rfl) (fun _ _ _ h => h) (Or.inl ⟨by rfl, fun w' hW => by have hq0 := (hW.1.cell HBL.out).trans c10; have hq1 := HLK.out w' hW.1; have hq2 := tk0 w' hW.2; have hq3 := tk1 w' hW.2; first | (go_simp; done) | (go_simp; with_reducible rfl) | (go_simp; rfl)⟩) hHeld ?_
  try simp only [Act.put, List.setIfInBounds_toArray, List.set_cons_zero, List.set_cons_succ]
  refine take_at (i := 5) (v := _) 58 rfl rfl (by kernel_rfl) (by kernel_rfl) (by kernel_rfl) (fun _ _ _ h => h) (Or.inl ⟨by rfl, fun w' hW => by have hq0 := (hW.1.cell HBL.out).trans c10; have hq1 := HLK.out w' hW.1; have hq2 := tk0 w' hW.2; have hq3 := tk1 w' hW.2; first | (go_simp; done) | (go_simp; with_reducible rfl) | (go_simp; rfl)⟩) hHeld ?_
  try simp only [Act.put, List.setIfInBounds_toArray, List.set_cons_zero, List.set_cons_succ]
  refine take_at (i := 6) (v := _) 59 rfl rfl (by kernel_rfl) (by kernel_rfl) (by kernel_rfl) (fun _ _ _ h => h) (Or.inl ⟨by rfl, fun w' hW => by have hq0 := (hW.1.cell HBL.out).trans c10; have hq1 := HLK.out w' hW.1; have hq2 := tk0 w' hW.2; have hq3 := tk1 w' hW.2; first | (go_simp; done) | (go_simp; with_reducible rfl) | (go_simp; rfl)⟩) hHeld ?_
  try simp only [Act.put, List.setIfInBounds_toArray, List.set_cons_zero, List.set_cons_succ]
  refine take_at (i := 7) (v := _) 60 rfl rfl (by kernel_rfl) (by kernel_rfl) (by kernel_rfl) (fun _ _ _ h => h) (Or.inl ⟨by rfl, fun w' hW => by have hq0 := (hW.1.cell HBL.out).trans c10; have hq1 := HLK.out w' hW.1; have hq2 := tk0 w' hW.2; have hq3 := tk1 w' hW.2; first | (go_simp; done) | (go_simp; with_reducible rfl) | (go_simp; rfl)⟩) hHeld ?_
  try simp only [Act.put, List.setIfInBounds_toArray, List.set_cons_zero, List.set_cons_succ]
  refine take_at (i := 8) (v := _) 61 rfl rfl (by kernel_rfl) (by kernel_rfl) (by kernel_rfl) (fun _ _ _ h => h) (Or.inl ⟨by rfl, fun w' hW => by have hq0 := (hW.1.cell HBL.out).trans c10; have hq1 := HLK.out w' hW.1; have hq2 := tk0 w' hW.2; have hq3 := tk1 w' hW.2; first | (go_simp; done) | (go_simp; with_reducible rfl) | (go_simp; rfl)⟩) hHeld ?_
  try simp only [Act.put, List.setIfInBounds_toArray, List.set_cons_zero, List.set_cons_succ]
  have N0 := Aside0.mk hHeld
  clear hHeld
  have hr0 : w8.drew.heap[w.heap.size]? = some (.cells (aSlot 0 0) 36 (0, 0)) := HR0.out
  have hr1 : w8.drew.heap[w.heap.size + 1]? = some (.cells (aTick 0 0) 34 (0, 0)) := HR1.out
  refine wpAnyH_ready (rs := [9]) (by kernel_rfl) (by simp) ?_
  refine AllReadyH.cons rfl (fun K hK => ?_) AllReadyH.nil
  rw [if_pos (by rfl)]
  refine store_at rfl 36 (.tmp 2) (.tmp 60) rfl w.heap.size 0 (aSlot e.n e.g) rfl rfl (there_of_block hr0 0 2 (by simp)) (by kernel_rfl) (by simp [Value.oneCell']) ?_
  have HS1 : Aside0 (Bd b s.mb w (takeS s) [(gg + 1, .cells (aTick s.head s.epoch) 34), (w.heap.size + 1, .cells (aTick 0 0) 34), (w.heap.size, .cells (aSlot e.n e.g) 36)] (w8.drew.setCells w.heap.size 0 (aSlot e.n e.g).toList) ∧ Below w.heap.size w8 (w8.drew.setCells w.heap.size 0 (aSlot e.n e.g).toList)) := ⟨(HB7.out.below (Below.refl _ _).drew).box w.heap.size (aSlot 0 0) 36 (by simp) 0 _ (fun p hp => by
    have := HG.out
    simp only [List.mem_cons, List.not_mem_nil, or_false] at hp
    rcases hp with rfl | rfl | rfl
    · exact Or.inr ⟨by simp, by simp only; omega⟩
    · exact Or.inr ⟨by simp, by simp⟩
    · exact Or.inl rfl), below_setCells (Nat.le_refl _) _ _ _ (Below.refl _ _).drew⟩
  clear hr0 hr1
  generalize w8.drew.setCells w.heap.size 0 (aSlot e.n e.g).toList = wz at HS1 ⊢
  refine hK.out _ _ ⟨HS1.out.2, (HS1.out.1.obj (gg + 1, _) List.mem_cons_self).1⟩ (fun hHeld => ?_)
  clear hK K
  try simp only [Act.put, List.setIfInBounds_toArray, List.set_cons_zero, List.set_cons_succ]
  clear hHeld
  have hr1 := (HS1.out.1.obj (w.heap.size + 1, _) (List.mem_cons_of_mem _ List.mem_cons_self)).1
  refine wpAnyH_ready (rs := [10]) (by kernel_rfl) (by simp) ?_
  refine AllReadyH.cons rfl (fun K hK => ?_) AllReadyH.nil
  rw [if_pos (by rfl)]
  refine store_at rfl 34 (.tmp 3) (.tmp 61) rfl (w.heap.size + 1) 0 (aTick s.head s.epoch) rfl rfl (there_of_block hr1 0 2 (by simp)) (by kernel_rfl) (by simp [Value.oneCell']) ?_
  have HS2 : Aside0 (Bd b s.mb w (takeS s) [(gg + 1, .cells (aTick s.head s.epoch) 34), (w.heap.size + 1, .cells (aTick s.head s.epoch) 34), (w.heap.size, .cells (aSlot e.n e.g) 36)] (wz.setCells (w.heap.size + 1) 0 (aTick s.head s.epoch).toList) ∧ Below w.heap.size w8 (wz.setCells (w.heap.size + 1) 0 (aTick s.head s.epoch).toList)) := ⟨HS1.out.1.box (w.heap.size + 1) (aTick 0 0) 34 (by simp) 0 _ (fun p hp => by
    have := HG.out
    simp only [List.mem_cons, List.not_mem_nil, or_false] at hp
    rcases hp with rfl | rfl | rfl
    · exact Or.inr ⟨by simp, by simp only; omega⟩
    · exact Or.inl rfl
    · exact Or.inr ⟨by simp, by simp⟩), below_setCells (Nat.le_succ _) _ _ _ HS1.out.2⟩
  clear hr1 HS1
  generalize wz.setCells (w.heap.size + 1) 0 (aTick s.head s.epoch).toList = wy at HS2 ⊢
  refine hK.out _ _ ⟨HS2.out.2, (HS2.out.1.obj (gg + 1, _) List.mem_cons_self).1⟩ (fun hHeld => ?_)
  clear hK K
  try simp only [Act.put, List.setIfInBounds_toArray, List.set_cons_zero, List.set_cons_succ]
  refine take_at (i := 11) (v := _) 4 rfl rfl (by kernel_rfl) (by kernel_rfl) (by kernel_rfl) (fun _ _ _ h => h) (Or.inl ⟨by rfl, fun w' hW => by have hq0 := (hW.1.cell HBL.out).trans c10; have hq1 := HLK.out w' hW.1; have hq2 := tk0 w' hW.2; have hq3 := tk1 w' hW.2; first | (go_simp; done) | (go_simp; with_reducible rfl) | (go_simp; rfl)⟩) hHeld ?_
  try simp only [Act.put, List.setIfInBounds_toArray, List.set_cons_zero, List.set_cons_succ]
  refine wpAnyH_done (by kernel_rfl) ?_ _
  clear hHeld
  go_wp2
  exact bodyPost_ret (res_cct (t := 36) (t2 := 34) rfl rfl rfl rfl (HS2.out.1.obj (w.heap.size, .cells (aSlot e.n e.g) 36) (by simp)).1 (HS2.out.1.obj (w.heap.size + 1, .cells (aTick s.head s.epoch) 34) (by simp)).1 Try.underlying36 rfl (by kernel_rfl) Try.underlying34 rfl (by kernel_rfl)) rfl ⟨rfl, HS2.out.1.ln, HS2.out.1.far⟩
end Go.Proofs.Ytglekbbdbnpohaa.QLn
