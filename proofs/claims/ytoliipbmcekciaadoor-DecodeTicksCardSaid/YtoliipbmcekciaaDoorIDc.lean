/- Decode: the iterator over a tick's pieces (decode.pieces$1). -/
import Derived.Test.YtoliipbmcekciaaDoorFDc
import Derived.Test.YtoliipbmcekciaaDoorEDc
import Derived.RangeFuncNested
import Derived.RangeFuncBound
import Derived.RangeFuncCalls
import Derived.RangeFuncLeaves
import Derived.Shelf.Abstract
import Derived.Shelf.RegionOpen
import Derived.OwnWalkIn
import Derived.TacticsInMore
import Derived.LoopNIn
import Derived.LoopIn
namespace Go.Proofs.YtoliipbmcekciaaDoor.QDc
open Go.RowKit Go.Shelf Go.Proofs.YtoliipbmcekciaaDoorW.PrintWords Go.Proofs.YtoliipbmcekciaaDoorW.PrintLast Go.Proofs.YtoliipbmcekciaaDoorW.PrintMore
set_option linter.unusedVariables false
set_option linter.unusedSimpArgs false

abbrev cAsk (x : S75) : Array Value := #[.int .u8 x.f0.f0, .int .u8 x.f0.f1, .int .u8 x.f0.f2, .int .u32 x.f0.f3, .int .u64 x.f0.f4, .bool x.f1]
/-- The pieces that the iterator tells. -/
def items (B : List (List Int)) (owner reqs : Int) : List S75 := if owner < 0 ∨ (B.length : Int) ≤ owner then [] else (pcs (B.getD owner.toNat []) reqs).map parse1
/-- What a round keeps: what lay below, and whatever is no row of pieces and no slice of them. -/
def Kp (n₀ : Nat) (W W' : World) : Prop := Below n₀ W W' ∧ ∀ (k : Nat) (cs : Array Value) (t : TypeId), t ≠ 34 → t ≠ 75 → W.heap[k]? = some (Obj.cells cs t (0, 0)) → W'.heap[k]? = some (Obj.cells cs t (0, 0))
/-- What the iterator captured. -/
structure Cap (w W : World) (bo bt bc : Nat) (owner reqs : Int) (A : Option Addr) (c : Nat) (B : List (List Int)) : Prop where
  below : Below w.heap.size w W
  owner : W.cell? ⟨bo, 0, none⟩ = some (.int .i64 owner)
  tick : W.cell? ⟨bt, 0, none⟩ = some (.slice A B.length c)
  reqs : W.cell? ⟨bc, 6, none⟩ = some (.int .i64 reqs)
  len : B.length ≤ c
  read : Kd.C (Kd.slice 5 (Kd.int .u8)) w A B.length B
  short : ∀ x ∈ B, x.length ≤ 1000
  glob : Glob w
set_option maxRecDepth 100000 in
set_option maxHeartbeats 2000000 in
theorem pieces1_not (l : Nat) (w W : World) (bo bt bc : Nat) (owner reqs : Int) (A : Option Addr) (c : Nat) (B : List (List Int)) (h : Cap w W bo bt bc owner reqs A c B) (hn : owner < 0 ∨ (B.length : Int) ≤ owner) :
    Calls Tryd.prog 59 #[.func (.yield l) #[] #[], .pointer (some ⟨bo, 0, none⟩), .pointer (some ⟨bt, 0, none⟩), .pointer (some ⟨bc, 0, none⟩)] W fun e W' => e = .returned (.tuple #[]) ∧ W' = W := by
  have h1 := h.owner
  have h2 := h.tick
  clear h
  by_cases h0 : owner < 0
  · have d1 : decide (owner < 0) = true := decide_eq_true h0
    go_enter Tryd.func59, Tryd.ntmps59
    go_wp2
    (try simp only [Exit.inBlock, Exit.then])
    refine bodyPost_ret (results_none rfl _ _ _) rfl ?_
    exact ⟨rfl, rfl⟩
  · have d1 : decide (owner < 0) = false := decide_eq_false h0
    have d2 : decide ((B.length : Int) ≤ owner) = true := decide_eq_true (hn.resolve_left h0)
    have d3 : decide (owner ≥ (B.length : Int)) = true := decide_eq_true (hn.resolve_left h0)
    go_enter Tryd.func59, Tryd.ntmps59
    go_wp2
    (try simp only [Exit.inBlock, Exit.then])
    refine bodyPost_ret (results_none rfl _ _ _) rfl ?_
    exact ⟨rfl, rfl⟩
/-- The owner's bytes -/
theorem grown_of_below {W W1 : World} (h : Below W.heap.size W W1) : W.grownBy W1 none := ⟨h.os, h.tape, h.output, h.size, fun k hk _ => h.block k hk⟩
theorem el_at {w : World} {A : Option Addr} {B : List (List Int)} (h : Kd.C (Kd.slice 5 (Kd.int .u8)) w A B.length B) (i : Int) (h0 : 0 ≤ i) (h1 : i < B.length) :
    ∃ ad Ae ce, A = some ad ∧ w.cell? (ad.add i.toNat) = some (.slice Ae (B.getD i.toNat []).length ce) ∧ (B.getD i.toNat []).length ≤ ce ∧ Kd.C (Kd.int .u8) w Ae (B.getD i.toNat []).length (B.getD i.toNat []) := by
  obtain ⟨ad, cs, e, _, hK, hc⟩ := Kd.C_get h [] i h0 h1
  obtain ⟨Ae, ce, rfl, hl, hC⟩ := hK
  exact ⟨ad, Ae, ce, e, by have := hc 0 _ rfl; rw [show i.toNat * (Kd.slice 5 (Kd.int .u8)).sz + 0 = i.toNat from Nat.mul_one _] at this; exact this, hl, hC⟩
/-- The row of pieces, and what its memory is. -/
theorem Split_all (A : Option Addr) (c : Nat) (l : List Int) (most : Int) (w w1 : World) (hb1 : Below w.heap.size w w1) (hr : Kd.C (Kd.int .u8) w A l.length l) (hc : l.length ≤ c) (hn : l.length ≤ 1000) :
    Calls Tryd.prog 60 #[.slice A l.length c, .int .i64 most] w1 fun e w' => ∃ v, e = .returned v ∧ Below w1.heap.size w1 w' ∧ ((pcs l most = [] ∧ ∃ A' c', v = .slice A' 0 c') ∨ ∃ ad g cap cs, A = some ad ∧ v = .slice (some ⟨g, 0, none⟩) (pcs l most).length cap ∧ w'.heap[g]? = some (Obj.cells cs 38 (0, 0)) ∧ ∀ j, j < (pcs l most).length → cs[j]? = some (chV ad l.length j)) := by
  by_cases h0 : l.length = 0
  · rw [h0]
    have e : pcs l most = [] := by unfold pcs; rw [h0, show min ((0 + 15) / 16) most.toNat = 0 by omega]; rfl
    refine (Split_zero A c most w1).mono ?_
    rintro e' w' ⟨rfl, hb⟩
    exact ⟨_, rfl, hb, .inl ⟨e, none, 0, rfl⟩⟩
  · obtain ⟨ad, rfl, _⟩ := Kd.at_int hr 0 (by omega) (by omega)
    refine (Split_walk ad c l.length most w1 hc hn).mono ?_
    rintro e w' ⟨v, m, rfl, hS, hx⟩
    have hm : m = min ((l.length + 15) / 16) most.toNat := by
      obtain ⟨_, _, h3, h4⟩ := hS
      omega
    have hl : (pcs l most).length = m := by unfold pcs; rw [List.length_map, List.length_range, hm]
    obtain ⟨hb, hown, _, _⟩ := hS
    rw [hl]
    obtain ⟨A', c', rfl, hc', hrd⟩ := own_reads_of_le (d := 0) hown
    refine ⟨_, rfl, hb, ?_⟩
    cases m with
    | zero => exact .inl ⟨List.length_eq_zero_iff.1 hl, A', c', rfl⟩
    | succ k =>
      obtain ⟨g, cap, hv⟩ := ownsRow_succ hown
      injection hv with hA _ hcap
      subst hA hcap
      obtain ⟨cs, hcs⟩ := own_typed hown g (by simp [Value.ownBlock])
      refine .inr ⟨ad, g, c', cs, rfl, rfl, hcs, fun j hj => ?_⟩
      obtain ⟨a0, e0, hcell⟩ := hrd.2.2 (by omega)
      injection e0 with e0
      subst e0
      have h2 := hcell j hj
      rw [List.getD_eq_getElem?_getD, List.getElem?_range hj] at h2
      have h3 : w'.cell? ⟨g, j, none⟩ = some (chV ad l.length j) := by
        have e : (⟨g, 0, none⟩ : Addr).add j = ⟨g, j, none⟩ := by rw [Addr.add_mid, Nat.zero_add]
        rw [e] at h2
        exact h2
      simpa [World.cell?, hcs] using h3
set_option maxRecDepth 100000 in
set_option maxHeartbeats 4000000 in
theorem pieces1_in (l : Nat) (w W : World) (bo bt bc : Nat) (owner reqs : Int) (A : Option Addr) (c : Nat) (B : List (List Int)) (h : Cap w W bo bt bc owner reqs A c B) (hn0 : 0 ≤ owner) (hn1 : owner < (B.length : Int))
    (J Jx : List S75 → World → Prop) (hJ : AbidesFrom W.heap.size J) (h0 : J [] W)
    (hY : ∀ pre x W1, J pre W1 → pre.length < (items B owner reqs).length → YieldAt Fence.wide 0 Tryd.prog l #[.agg (cAsk x)] W1 fun e W' => (e = .returned (.bool true) ∧ J (pre ++ [x]) W' ∧ Kp w.heap.size W1 W') ∨ (e = .returned (.bool false) ∧ Jx (pre ++ [x]) W')) :
    Calls Tryd.prog 59 #[.func (.yield l) #[] #[], .pointer (some ⟨bo, 0, none⟩), .pointer (some ⟨bt, 0, none⟩), .pointer (some ⟨bc, 0, none⟩)] W fun e W' => (∃ v, e = .returned v) ∧ ((∃ ys, ys = items B owner reqs ∧ J ys W') ∨ (∃ pre, pre <+: items B owner reqs ∧ Jx pre W')) := by
  obtain ⟨ad, Ae, ce, rfl, xe, hle, hCe⟩ := el_at h.read owner hn0 hn1
  have HCAP := Aside0.mk h
  have HE := Aside0.mk (And.intro hCe (pw_cell_below h.below xe))
  have HLE := Aside0.mk hle
  have HSH : Aside0 ((B.getD owner.toNat []).length ≤ 1000) := ⟨by
    have hlt : owner.toNat < B.length := by omega
    rw [List.getD_eq_getElem?_getD, List.getElem?_eq_getElem hlt]
    exact h.short _ (List.getElem_mem hlt)⟩
  have hit : items B owner reqs = (pcs (B.getD owner.toNat []) reqs).map parse1 := by unfold items; rw [if_neg (by omega)]
  rw [hit] at hY ⊢
  have HY := Aside0.mk hY
  have HJ := Aside0.mk hJ
  have H0 := Aside0.mk h0
  clear hY hJ h0 hit hCe xe hle
  have c1 := h.owner
  have c2 := h.tick
  have HO := Aside0.mk c1
  have HT := Aside0.mk c2
  have HQ := Aside0.mk h.reqs
  have d1 : decide (owner < 0) = false := decide_eq_false (by omega)
  have d2 : decide (owner ≥ (B.length : Int)) = false := decide_eq_false (by omega)
  have d3 : decide ((B.length : Int) ≤ owner) = false := decide_eq_false (by omega)
  clear h
  generalize hL : B.getD owner.toNat [] = L at HE HLE HSH HY ⊢
  clear hL
  go_enter Tryd.func59, Tryd.ntmps59
  go_upto_region 1 with fail
  clear c1 c2
  refine wp_region_held_drew (S := fun w' => Below W.heap.size W w') (by kernel_rfl) (pw_below_drewN (Below.refl _ _) 1) (fun hHeld => ?_)
  generalize W.drew = W0 at hHeld ⊢
  refine take_at (i := 0) (v := .pointer (some ⟨bt, 0, none⟩)) 18 rfl rfl (by kernel_rfl) (by kernel_rfl) (by kernel_rfl) (fun _ _ _ h => h) (Or.inl ⟨by rfl, fun w _ => by first | (go_simp; done) | (go_simp; with_reducible rfl) | rfl⟩) hHeld ?_
  try simp only [Act.put, List.setIfInBounds_toArray, List.set_cons_zero, List.set_cons_succ]
  refine take_at (i := 1) (v := .slice (some ad) B.length c) 19 rfl rfl (by kernel_rfl) (by kernel_rfl) (by kernel_rfl) (fun _ _ _ h => h) (Or.inl ⟨by rfl, fun w' hS => by have hq := pw_cell_below hS HT.out; go_simp⟩) hHeld ?_
  try simp only [Act.put, List.setIfInBounds_toArray, List.set_cons_zero, List.set_cons_succ]
  refine take_at (i := 2) (v := .int .i64 owner) 20 rfl rfl (by kernel_rfl) (by kernel_rfl) (by kernel_rfl) (fun _ _ _ h => h) (Or.inl ⟨by rfl, fun w' hS => by have hq := pw_cell_below hS HO.out; go_simp⟩) hHeld ?_
  try simp only [Act.put, List.setIfInBounds_toArray, List.set_cons_zero, List.set_cons_succ]
  refine take_at (i := 3) (v := .pointer (some (ad.add owner.toNat))) 21 rfl rfl (by kernel_rfl) (by kernel_rfl) (by kernel_rfl) (fun _ _ _ h => h) (Or.inl ⟨by rfl, fun w _ => by first | (go_simp; done) | (go_simp; with_reducible rfl) | rfl⟩) hHeld ?_
  try simp only [Act.put, List.setIfInBounds_toArray, List.set_cons_zero, List.set_cons_succ]
  refine take_at (i := 4) (v := .slice Ae L.length ce) 22 rfl rfl (by kernel_rfl) (by kernel_rfl) (by kernel_rfl) (fun _ _ _ h => h) (Or.inl ⟨by rfl, fun w' hS => by have hq := pw_cell_below hS HE.out.2; go_simp⟩) hHeld ?_
  try simp only [Act.put, List.setIfInBounds_toArray, List.set_cons_zero, List.set_cons_succ]
  refine take_at (i := 5) (v := .pointer (some ⟨bc, 6, none⟩)) 23 rfl rfl (by kernel_rfl) (by kernel_rfl) (by kernel_rfl) (fun _ _ _ h => h) (Or.inl ⟨by rfl, fun w _ => by first | (go_simp; done) | (go_simp; with_reducible rfl) | rfl⟩) hHeld ?_
  try simp only [Act.put, List.setIfInBounds_toArray, List.set_cons_zero, List.set_cons_succ]
  refine take_at (i := 6) (v := .int .i64 reqs) 24 rfl rfl (by kernel_rfl) (by kernel_rfl) (by kernel_rfl) (fun _ _ _ h => h) (Or.inl ⟨by rfl, fun w' hS => by have hq := pw_cell_below hS HQ.out; go_simp⟩) hHeld ?_
  try simp only [Act.put, List.setIfInBounds_toArray, List.set_cons_zero, List.set_cons_succ]
  refine take_at (i := 9) (v := .int .i64 0) 27 rfl rfl (by kernel_rfl) (by kernel_rfl) (by kernel_rfl) (fun _ _ _ h => h) (Or.inl ⟨by rfl, fun w _ => by first | (go_simp; done) | (go_simp; with_reducible rfl) | rfl⟩) hHeld ?_
  try simp only [Act.put, List.setIfInBounds_toArray, List.set_cons_zero, List.set_cons_succ]
  refine wpAnyH_ready (rs := [7]) (by kernel_rfl) (by simp) ?_
  refine AllReadyH.cons rfl (fun K hK => ?_) AllReadyH.nil
  go_simp
  go_wp2_with (first | (go_at_call 60; refine (Split_all Ae ce L reqs w _ (below_step HCAP.out.below hHeld) HE.out.1 HLE.out HSH.out).mono ?_; rintro e1 W1 ⟨v, rfl, hb1, hv⟩; have HX := Aside0.mk (And.intro (below_step hHeld hb1) hv); clear hb1 hv))
  clear hHeld
  refine hK.out _ _ HX.out.1 (fun hHeld => ?_)
  clear hK K
  try simp only [Act.put, List.setIfInBounds_toArray, List.set_cons_zero, List.set_cons_succ]
  have hJW : J [] W1 := HJ.out [] W W1 none H0.out (grown_of_below HX.out.1) (fun r e => by cases e)
  have HBW : Aside0 (Below w.heap.size w W1) := ⟨below_step HCAP.out.below HX.out.1⟩
  rcases HX.out.2 with ⟨hp, A', c', rfl⟩ | ⟨ad', g, cap, cs, hae, rfl, hcs, hcell⟩
  · skip
    refine take_at (i := 8) (v := .int .i64 0) 26 rfl rfl (by kernel_rfl) (by kernel_rfl) (by kernel_rfl) (fun _ _ _ h => h) (Or.inl ⟨by rfl, fun w _ => by first | (go_simp; done) | (go_simp; with_reducible rfl) | rfl⟩) hHeld ?_
    try simp only [Act.put, List.setIfInBounds_toArray, List.set_cons_zero, List.set_cons_succ]
    refine wpAnyH_done (by kernel_rfl) ?_ _
    clear hHeld
    have HJW := Aside0.mk hJW
    have HP := Aside0.mk hp
    clear hJW hp
    go_wp2
    go_loopw [27] (fun i wr => i = .int .i64 0 ∧ wr = W1) (fun _ _ => 0)
    case atStart => exact ⟨rfl, rfl⟩
    case round =>
      obtain ⟨rfl, rfl⟩ := hrel
      go_wp2
      go_end0
      exact ⟨⟨_, rfl⟩, .inl ⟨_, by rw [HP.out]; rfl, HJW.out⟩⟩
  · skip
    refine take_at (i := 8) (v := .int .i64 ((pcs L reqs).length : Int)) 26 rfl rfl (by kernel_rfl) (by kernel_rfl) (by kernel_rfl) (fun _ _ _ h => h) (Or.inl ⟨by rfl, fun w _ => by first | (go_simp; done) | (go_simp; with_reducible rfl) | rfl⟩) hHeld ?_
    try simp only [Act.put, List.setIfInBounds_toArray, List.set_cons_zero, List.set_cons_succ]
    refine wpAnyH_done (by kernel_rfl) ?_ _
    clear hHeld
    obtain ⟨m, hm⟩ : ∃ m, (pcs L reqs).length = m := ⟨_, rfl⟩
    have HMM := Aside0.mk hm
    have HCS := Aside0.mk hcell
    have HINIT : Aside0 (Below w.heap.size w W1 ∧ W1.heap[g]? = some (Obj.cells cs 38 (0, 0)) ∧ Below W.heap.size W W1 ∧ J (((pcs L reqs).map parse1).take 0) W1) := ⟨HBW.out, hcs, HX.out.1, hJW⟩
    clear hJW hcs hcell HX
    rw [hm]
    clear hm
    subst hae
    go_wp2
    go_loopw [27] (fun i wr => ∃ j : Nat, Aside0 (j ≤ m) ∧ i = .int .i64 (j : Int) ∧ Aside0 (Below w.heap.size w wr ∧ wr.heap[g]? = some (Obj.cells cs 38 (0, 0)) ∧ W.heap.size ≤ wr.heap.size ∧ J (((pcs L reqs).map parse1).take j) wr)) (fun i _ => m - (intOf i).toNat)
    case atStart => exact ⟨0, ⟨Nat.zero_le _⟩, rfl, ⟨HINIT.out.1, HINIT.out.2.1, HINIT.out.2.2.1.size, HINIT.out.2.2.2⟩⟩
    case round =>
      obtain ⟨j, hjm, rfl, hI⟩ := hrel
      by_cases hlt : (j : Int) < (m : Int)
      · have HLT := Aside0.mk hlt
        have d5 : decide ((j : Int) < (m : Int)) = true := decide_eq_true hlt
        have hge : (0 : Int) ≤ (j : Int) := by omega
        have hclen : (chunk L j).length = min (L.length - 16 * j) 16 := by unfold chunk; rw [List.length_take, List.length_drop]; omega
        have hcj : wr.cell? ⟨g, j, none⟩ = some (.slice (some (ad'.add (16 * j))) (chunk L j).length (chunk L j).length) := by
          have h1 := HCS.out j (by have := HMM.out; omega)
          rw [hclen]
          simp only [World.cell?, hI.out.2.1]
          simpa [chV] using h1
        have PC : Aside0 (Kd.C (Kd.int .u8) w (some (ad'.add (16 * j))) (chunk L j).length (chunk L j)) := ⟨by
          have hm16 : 16 * j + (chunk L j).length ≤ L.length := by
            have h2 : m = min ((L.length + 15) / 16) reqs.toNat := by rw [← HMM.out]; unfold pcs; rw [List.length_map, List.length_range]
            omega
          have := C_sub HE.out.1 (16 * j) (chunk L j).length hm16
          have e : (L.drop (16 * j)).take (chunk L j).length = chunk L j := by
            rw [hclen]; unfold chunk
            rw [← List.take_take]
            exact List.take_of_length_le (by rw [List.length_take, List.length_drop]; omega)
          rw [e] at this
          exact this⟩
        clear hclen
        obtain ⟨x, hx⟩ : ∃ x, parse1 (chunk L j) = x := ⟨_, rfl⟩
        have HPC : Aside0 (Calls Tryd.prog 61 #[.slice (some (ad'.add (16 * j))) (chunk L j).length (chunk L j).length] wr fun e' w' => ∃ e, e' = .returned (.tuple #[.agg (cReq x.f0.f0 x.f0.f1 x.f0.f2 x.f0.f3 x.f0.f4), .int .i64 e]) ∧ (e == 0) = x.f1 ∧ Below wr.heap.size wr w') := ⟨by
          rw [← hx]
          exact Parse_calls (some (ad'.add (16 * j))) (chunk L j).length (chunk L j) wr (Kd.C_below PC.out hI.out.1) (Nat.le_refl _) (HCAP.out.glob.below hI.out.1)⟩
        have HXX : Aside0 (((pcs L reqs).map parse1).take (j + 1) = ((pcs L reqs).map parse1).take j ++ [x]) := ⟨by
          have hj1 : j < ((pcs L reqs).map parse1).length := by rw [List.length_map, HMM.out]; omega
          rw [List.take_succ_eq_append_getElem hj1]
          congr 2
          rw [List.getElem_map, ← hx]
          congr 1
          unfold pcs
          rw [List.getElem_map, List.getElem_range]⟩
        clear hx
        go_upto_region 5 with (first | (go_at_call 61; refine HPC.out.mono ?_; rintro e2 W2 ⟨e, rfl, he, hb2⟩; have HZ := Aside0.mk hb2; have HEE := Aside0.mk he; clear hb2 he))
        clear hcj
        change Code.wp Tryd.prog _ _ _ (W2.alloc (.cells (cReq x.f0.f0 x.f0.f1 x.f0.f2 x.f0.f3 x.f0.f4) 55))
        have HB3 : Aside0 (Below wr.heap.size wr (W2.alloc (.cells (cReq x.f0.f0 x.f0.f1 x.f0.f2 x.f0.f3 x.f0.f4) 55))) := ⟨below_alloc HZ.out _⟩
        have hbk := heap_alloc_new W2 (.cells (cReq x.f0.f0 x.f0.f1 x.f0.f2 x.f0.f3 x.f0.f4) 55)
        generalize W2.alloc (.cells (cReq x.f0.f0 x.f0.f1 x.f0.f2 x.f0.f3 x.f0.f4) 55) = W3 at HB3 hbk ⊢
        generalize W2.heap.size = g3 at hbk ⊢
        obtain ⟨q0, q1, q2, q3, q4⟩ := req_cells hbk
        clear hbk
        obtain ⟨fn, tmps, assign, body, hy, hR⟩ := HY.out _ x W3 (HJ.out _ wr W3 none hI.out.2.2.2 (grown_of_below HB3.out) (fun r e => by cases e)) (by rw [List.length_take, List.length_map, HMM.out]; have := HLT.out; omega)
        have he := HEE.out
        refine (wpIn_wide (n := 1)).1 ?_
        gi_wp2
        refine hR.mono ?_
        clear hR hy q0 q1 q2 q3 q4 he
        rintro e3 W4 (⟨rfl, hJ4, hk4⟩ | ⟨rfl, hJx⟩)
        · have HJ4 := Aside0.mk hJ4
          have HK4 := Aside0.mk hk4
          clear hJ4 hk4
          gi_wp2
          go_wp2
          have hwj : wrap64 ((j : Int) + 1) = (j : Int) + 1 := by
            have h2 : m = min ((L.length + 15) / 16) reqs.toNat := by rw [← HMM.out]; unfold pcs; rw [List.length_map, List.length_range]
            have := HSH.out
            have := HLT.out
            clear d5 hge
            unfold wrap64
            omega
          have hh : m - ((j : Int) + 1).toNat < m - ((j : Int)).toNat := by have := HLT.out; clear d5 hge; omega
          go_roundw
          case rel =>
            refine ⟨j + 1, ⟨by have := HLT.out; omega⟩, by rw [hwj]; rfl, ⟨(below_step hI.out.1 HB3.out).trans HK4.out.1, HK4.out.2 g cs 38 (by decide) (by decide) (obj_below HB3.out hI.out.2.1), ?_, ?_⟩⟩
            · have h1 := HB3.out.size
              have h2 := hI.out.2.2.1
              have h3 := HK4.out.1.size
              omega
            · rw [HXX.out]; exact HJ4.out
          case measure =>
            simp only [hwj]
            exact hh
        · have HJX := Aside0.mk hJx
          clear hJx
          gi_wp2
          go_wp2
          (try simp only [Exit.inBlock, Exit.then])
          refine bodyPost_ret (results_none rfl _ _ _) rfl ?_
          refine ⟨⟨_, rfl⟩, .inr ⟨_, ?_, HJX.out⟩⟩
          rw [← HXX.out]
          exact List.take_prefix _ _
      · have HLT := Aside0.mk hlt
        have d5 : decide ((j : Int) < (m : Int)) = false := decide_eq_false hlt
        go_wp2
        go_end0
        have hfin := hI.out.2.2.2
        rw [List.take_of_length_le (by rw [List.length_map, HMM.out]; have := HLT.out; omega)] at hfin
        first | exact ⟨⟨_, rfl⟩, .inl hfin⟩ | exact ⟨⟨_, rfl⟩, .inl ⟨_, rfl, hfin⟩⟩
end Go.Proofs.YtoliipbmcekciaaDoor.QDc
