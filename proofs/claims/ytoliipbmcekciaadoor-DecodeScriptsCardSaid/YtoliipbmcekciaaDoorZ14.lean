/- Texts of this claim, joined: rHDc, rKDc, XEDe. -/
import Derived.Test.YtoliipbmcekciaaDoorZ01
import Derived.Test.YtoliipbmcekciaaDoorZ11
import Derived.Test.YtoliipbmcekciaaDoorZ13
import Derived.RangeFuncNested
import Derived.RangeFuncBound
import Derived.RangeFuncCalls
import Derived.RangeFuncLeaves
import Derived.Shelf.Abstract
import Derived.Shelf.RegionOpen
import Derived.OwnWalkIn
import Derived.TacticsInMore
import Derived.LoopNIn
import Derived.LoopIn
import Derived.RangeFuncBox
import Derived.Maps.AppendAt
namespace Go.Proofs.YtoliipbmcekciaaDoor.QDc
open Go.RowKit Go.Proofs.YtoliipbmcekciaaDoorW.PrintWords Go.Proofs.YtoliipbmcekciaaDoorW.PrintLast Go.Proofs.YtoliipbmcekciaaDoorW.PrintMore
set_option linter.unusedVariables false
set_option linter.unusedSimpArgs false

def okReq (k a r h p : Int) : Bool :=
  if k = 1 then decide (1 ≤ r ∧ r ≤ 7 ∧ h = 0 ∧ p = 0) else if k = 2 ∨ k = 4 ∨ k = 6 ∨ k = 7 then decide (a = 0 ∧ r = 0 ∧ p = 0) else
  if k = 3 then decide (a = 0 ∧ r = 0) else if k = 5 then decide (1 ≤ r ∧ r ≤ 7 ∧ p = 0) else if k = 8 then decide (r = 0 ∧ h = 0) else
  if k = 9 then decide (a = 0 ∧ r = 0 ∧ h = 0 ∧ p = 0) else false
theorem check_ok (k a r h p : Int) : wire_Check.f 9 k a r h p = some (if okReq k a r h p = true then 0 else 30) := by
  by_cases h1 : k = 1
  · subst h1; by_cases hb : 1 ≤ r <;> by_cases hc : r ≤ 7 <;> by_cases hh : h = 0 <;> by_cases hp : p = 0 <;> simp [wire_Check.f, wire_named.f, wire_named.j0, okReq, hb, hc, hh, hp, @eq_comm Int 0]
  by_cases h2 : k = 2
  · subst h2; by_cases ha : a = 0 <;> by_cases hR : r = 0 <;> by_cases hp : p = 0 <;> simp [wire_Check.f, wire_named.f, wire_named.j0, okReq, ha, hR, hp, @eq_comm Int 0]
  by_cases h3 : k = 3
  · subst h3; by_cases ha : a = 0 <;> by_cases hR : r = 0 <;> simp [wire_Check.f, wire_named.f, wire_named.j0, okReq, ha, hR, @eq_comm Int 0]
  by_cases h4 : k = 4
  · subst h4; by_cases ha : a = 0 <;> by_cases hR : r = 0 <;> by_cases hp : p = 0 <;> simp [wire_Check.f, wire_named.f, wire_named.j0, okReq, ha, hR, hp, @eq_comm Int 0]
  by_cases h5 : k = 5
  · subst h5; by_cases hb : 1 ≤ r <;> by_cases hc : r ≤ 7 <;> by_cases hp : p = 0 <;> simp [wire_Check.f, wire_named.f, wire_named.j0, okReq, hb, hc, hp, @eq_comm Int 0]
  by_cases h6 : k = 6
  · subst h6; by_cases ha : a = 0 <;> by_cases hR : r = 0 <;> by_cases hp : p = 0 <;> simp [wire_Check.f, wire_named.f, wire_named.j0, okReq, ha, hR, hp, @eq_comm Int 0]
  by_cases h7 : k = 7
  · subst h7; by_cases ha : a = 0 <;> by_cases hR : r = 0 <;> by_cases hp : p = 0 <;> simp [wire_Check.f, wire_named.f, wire_named.j0, okReq, ha, hR, hp, @eq_comm Int 0]
  by_cases h8 : k = 8
  · subst h8; by_cases hR : r = 0 <;> by_cases hh : h = 0 <;> simp [wire_Check.f, wire_named.f, wire_named.j0, okReq, hR, hh, @eq_comm Int 0]
  by_cases h9 : k = 9
  · subst h9; by_cases ha : a = 0 <;> by_cases hR : r = 0 <;> by_cases hh : h = 0 <;> by_cases hp : p = 0 <;> simp [wire_Check.f, wire_named.f, wire_named.j0, okReq, ha, hR, hh, hp, @eq_comm Int 0]
  by_cases hb : 1 ≤ r <;> simp [wire_Check.f, wire_named.f, wire_named.j0, okReq, h1, h2, h3, h4, h5, h6, h7, h8, h9, hb]
theorem get_some (l : List Int) (h16 : l.length = 16) : (∃ t, wire_part_get.f 9 4 4 l = some t) ∧ ∃ t, wire_part_get.f 9 8 8 l = some t := by
  refine ⟨?_, ?_⟩
  · simp [wire_part_get.f, wire_part_get.l0, h16, wrap64]
    all_goals decide
  · simp [wire_part_get.f, wire_part_get.l0, h16, wrap64]
    all_goals decide
def get4 (l : List Int) : Int := (wire_part_get.f 9 4 4 l).getD 0
def get8 (l : List Int) : Int := (wire_part_get.f 9 8 8 l).getD 0
theorem get4_ok (l : List Int) (h16 : l.length = 16) : wire_part_get.f 9 4 4 l = some (get4 l) := by
  obtain ⟨t, ht⟩ := (get_some l h16).1
  rw [get4, ht]; rfl
theorem get8_ok (l : List Int) (h16 : l.length = 16) : wire_part_get.f 9 8 8 l = some (get8 l) := by
  obtain ⟨t, ht⟩ := (get_some l h16).2
  rw [get8, ht]; rfl
/-- What a piece is. -/
def parse1 (l : List Int) : S75 :=
  if l.length = 16 ∧ rd l 3 = 0 ∧ okReq (rd l 0) (rd l 1) (rd l 2) (get4 l % 4294967296) (get8 l) = true then ⟨⟨rd l 0, rd l 1, rd l 2, get4 l % 4294967296, get8 l⟩, true⟩ else ⟨⟨0, 0, 0, 0, 0⟩, false⟩
theorem Parse_calls (A : Option Addr) (c : Nat) (l : List Int) (w : World) (hr : Kd.C (Kd.int .u8) w A l.length l) (hc : l.length ≤ c) (hg : Glob w) :
    Calls Tryd.prog 61 #[.slice A l.length c] w fun e' w' => ∃ e, e' = .returned (.tuple #[.agg (cReq (parse1 l).f0.f0 (parse1 l).f0.f1 (parse1 l).f0.f2 (parse1 l).f0.f3 (parse1 l).f0.f4), .int .i64 e]) ∧ (e == 0) = (parse1 l).f1 ∧ Below w.heap.size w w' := by
  by_cases h16 : l.length = 16
  · obtain ⟨ad, rfl, _⟩ := Kd.at_int hr 0 (by omega) (by omega)
    by_cases h3 : rd l 3 = 0
    · rw [h16] at hr hc
      rw [h16]
      cases hk : okReq (rd l 0) (rd l 1) (rd l 2) (get4 l % 4294967296) (get8 l) with
      | true =>
        have e : parse1 l = ⟨⟨rd l 0, rd l 1, rd l 2, get4 l % 4294967296, get8 l⟩, true⟩ := by unfold parse1; rw [if_pos ⟨h16, h3, hk⟩]
        rw [e]
        refine (Parse_ok 9 ad c l w hc h16 hr hg _ _ _ rfl rfl rfl h3 _ _ (get4_ok l h16) (get8_ok l h16) (by rw [check_ok, hk]; rfl)).mono ?_
        rintro e' w' ⟨rfl, hb⟩
        exact ⟨0, rfl, rfl, hb⟩
      | false =>
        have e : parse1 l = ⟨⟨0, 0, 0, 0, 0⟩, false⟩ := by unfold parse1; rw [if_neg (fun h => by rw [hk] at h; exact absurd h.2.2 (by decide))]
        rw [e]
        refine (Parse_bad 9 ad c l w hc h16 hr hg _ _ _ rfl rfl rfl h3 _ _ (get4_ok l h16) (get8_ok l h16) 30 (by rw [check_ok, hk]; rfl) (by decide)).mono ?_
        rintro e' w' ⟨rfl, hb⟩
        exact ⟨30, rfl, rfl, hb⟩
    · have e : parse1 l = ⟨⟨0, 0, 0, 0, 0⟩, false⟩ := by unfold parse1; rw [if_neg (fun h => h3 h.2.1)]
      rw [h16] at hr hc
      rw [e, h16]
      refine (Parse_three ad c l w hr h3).mono ?_
      rintro e' w' ⟨rfl, hb⟩
      exact ⟨30, rfl, rfl, hb⟩
  · have e : parse1 l = ⟨⟨0, 0, 0, 0, 0⟩, false⟩ := by unfold parse1; rw [if_neg (fun h => h16 h.1)]
    rw [e]
    refine (Parse_long A c l.length w h16).mono ?_
    rintro e' w' ⟨rfl, hb⟩
    exact ⟨30, rfl, rfl, hb⟩
end Go.Proofs.YtoliipbmcekciaaDoor.QDc
namespace Go.Proofs.YtoliipbmcekciaaDoor.QDc
open Go.RowKit Go.Shelf Go.Proofs.YtoliipbmcekciaaDoorW.PrintWords Go.Proofs.YtoliipbmcekciaaDoorW.PrintLast Go.Proofs.YtoliipbmcekciaaDoorW.PrintMore
set_option linter.unusedVariables false
set_option linter.unusedSimpArgs false

abbrev cAsk (x : S75) : Array Value := #[.int .u8 x.f0.f0, .int .u8 x.f0.f1, .int .u8 x.f0.f2, .int .u32 x.f0.f3, .int .u64 x.f0.f4, .bool x.f1]
/-- The pieces that the iterator tells. -/
def items (B : List (List Int)) (owner reqs : Int) : List S75 := if owner < 0 ∨ (B.length : Int) ≤ owner then [] else (pcs (B.getD owner.toNat []) reqs).map parse1
/-- What a round keeps: what lay below, and whatever is no row of pieces and no slice of them. -/
def Kp (n₀ : Nat) (W W' : World) : Prop := Below n₀ W W' ∧ ∀ (k : Nat) (cs : Array Value) (t : TypeId), t ≠ 34 → t ≠ 75 → W.heap[k]? = some (Obj.cells cs t (0, 0)) → W'.heap[k]? = some (Obj.cells cs t (0, 0))
/-- What the iterator captured. -/
structure Cap (w W : World) (bo bt bc : Nat) (owner reqs : Int) (A : Option Addr) (c : Nat) (B : List (List Int)) : Prop where
  below : Below w.heap.size w W
  owner : W.cell? ⟨bo, 0, none⟩ = some (.int .i64 owner)
  tick : W.cell? ⟨bt, 0, none⟩ = some (.slice A B.length c)
  reqs : W.cell? ⟨bc, 6, none⟩ = some (.int .i64 reqs)
  len : B.length ≤ c
  read : Kd.C (Kd.slice 5 (Kd.int .u8)) w A B.length B
  short : ∀ x ∈ B, x.length ≤ 1000
  glob : Glob w
set_option maxRecDepth 100000 in
set_option maxHeartbeats 2000000 in
theorem pieces1_not (l : Nat) (w W : World) (bo bt bc : Nat) (owner reqs : Int) (A : Option Addr) (c : Nat) (B : List (List Int)) (h : Cap w W bo bt bc owner reqs A c B) (hn : owner < 0 ∨ (B.length : Int) ≤ owner) :
    Calls Tryd.prog 59 #[.func (.yield l) #[] #[], .pointer (some ⟨bo, 0, none⟩), .pointer (some ⟨bt, 0, none⟩), .pointer (some ⟨bc, 0, none⟩)] W fun e W' => e = .returned (.tuple #[]) ∧ W' = W := by
  have h1 := h.owner
  have h2 := h.tick
  clear h
  by_cases h0 : owner < 0
  · have d1 : decide (owner < 0) = true := decide_eq_true h0
    go_enter Tryd.func59, Tryd.ntmps59
    go_wp2
    (try simp only [Exit.inBlock, Exit.then])
    refine bodyPost_ret (results_none rfl _ _ _) rfl ?_
    exact ⟨rfl, rfl⟩
  · have d1 : decide (owner < 0) = false := decide_eq_false h0
    have d2 : decide ((B.length : Int) ≤ owner) = true := decide_eq_true (hn.resolve_left h0)
    have d3 : decide (owner ≥ (B.length : Int)) = true := decide_eq_true (hn.resolve_left h0)
    go_enter Tryd.func59, Tryd.ntmps59
    go_wp2
    (try simp only [Exit.inBlock, Exit.then])
    refine bodyPost_ret (results_none rfl _ _ _) rfl ?_
    exact ⟨rfl, rfl⟩
/-- The owner's bytes -/
theorem grown_of_below {W W1 : World} (h : Below W.heap.size W W1) : W.grownBy W1 none := ⟨h.os, h.tape, h.output, h.size, fun k hk _ => h.block k hk⟩
theorem el_at {w : World} {A : Option Addr} {B : List (List Int)} (h : Kd.C (Kd.slice 5 (Kd.int .u8)) w A B.length B) (i : Int) (h0 : 0 ≤ i) (h1 : i < B.length) :
    ∃ ad Ae ce, A = some ad ∧ w.cell? (ad.add i.toNat) = some (.slice Ae (B.getD i.toNat []).length ce) ∧ (B.getD i.toNat []).length ≤ ce ∧ Kd.C (Kd.int .u8) w Ae (B.getD i.toNat []).length (B.getD i.toNat []) := by
  obtain ⟨ad, cs, e, _, hK, hc⟩ := Kd.C_get h [] i h0 h1
  obtain ⟨Ae, ce, rfl, hl, hC⟩ := hK
  exact ⟨ad, Ae, ce, e, by have := hc 0 _ rfl; rw [show i.toNat * (Kd.slice 5 (Kd.int .u8)).sz + 0 = i.toNat from Nat.mul_one _] at this; exact this, hl, hC⟩
/-- The row of pieces, and what its memory is. -/
theorem Split_all (A : Option Addr) (c : Nat) (l : List Int) (most : Int) (w w1 : World) (hb1 : Below w.heap.size w w1) (hr : Kd.C (Kd.int .u8) w A l.length l) (hc : l.length ≤ c) (hn : l.length ≤ 1000) :
    Calls Tryd.prog 60 #[.slice A l.length c, .int .i64 most] w1 fun e w' => ∃ v, e = .returned v ∧ Below w1.heap.size w1 w' ∧ ((pcs l most = [] ∧ ∃ A' c', v = .slice A' 0 c') ∨ ∃ ad g cap cs, A = some ad ∧ v = .slice (some ⟨g, 0, none⟩) (pcs l most).length cap ∧ w'.heap[g]? = some (Obj.cells cs 38 (0, 0)) ∧ ∀ j, j < (pcs l most).length → cs[j]? = some (chV ad l.length j)) := by
  by_cases h0 : l.length = 0
  · rw [h0]
    have e : pcs l most = [] := by unfold pcs; rw [h0, show min ((0 + 15) / 16) most.toNat = 0 by omega]; rfl
    refine (Split_zero A c most w1).mono ?_
    rintro e' w' ⟨rfl, hb⟩
    exact ⟨_, rfl, hb, .inl ⟨e, none, 0, rfl⟩⟩
  · obtain ⟨ad, rfl, _⟩ := Kd.at_int hr 0 (by omega) (by omega)
    refine (Split_walk ad c l.length most w1 hc hn).mono ?_
    rintro e w' ⟨v, m, rfl, hS, hx⟩
    have hm : m = min ((l.length + 15) / 16) most.toNat := by
      obtain ⟨_, _, h3, h4⟩ := hS
      omega
    have hl : (pcs l most).length = m := by unfold pcs; rw [List.length_map, List.length_range, hm]
    obtain ⟨hb, hown, _, _⟩ := hS
    rw [hl]
    obtain ⟨A', c', rfl, hc', hrd⟩ := own_reads_of_le (d := 0) hown
    refine ⟨_, rfl, hb, ?_⟩
    cases m with
    | zero => exact .inl ⟨List.length_eq_zero_iff.1 hl, A', c', rfl⟩
    | succ k =>
      obtain ⟨g, cap, hv⟩ := ownsRow_succ hown
      injection hv with hA _ hcap
      subst hA hcap
      obtain ⟨cs, hcs⟩ := own_typed hown g (by simp [Value.ownBlock])
      refine .inr ⟨ad, g, c', cs, rfl, rfl, hcs, fun j hj => ?_⟩
      obtain ⟨a0, e0, hcell⟩ := hrd.2.2 (by omega)
      injection e0 with e0
      subst e0
      have h2 := hcell j hj
      rw [List.getD_eq_getElem?_getD, List.getElem?_range hj] at h2
      have h3 : w'.cell? ⟨g, j, none⟩ = some (chV ad l.length j) := by
        have e : (⟨g, 0, none⟩ : Addr).add j = ⟨g, j, none⟩ := by rw [Addr.add_mid, Nat.zero_add]
        rw [e] at h2
        exact h2
      simpa [World.cell?, hcs] using h3
set_option maxRecDepth 100000 in
set_option maxHeartbeats 4000000 in
theorem pieces1_in (l : Nat) (w W : World) (bo bt bc : Nat) (owner reqs : Int) (A : Option Addr) (c : Nat) (B : List (List Int)) (h : Cap w W bo bt bc owner reqs A c B) (hn0 : 0 ≤ owner) (hn1 : owner < (B.length : Int))
    (J Jx : List S75 → World → Prop) (hJ : AbidesFrom W.heap.size J) (h0 : J [] W)
    (hY : ∀ pre x W1, J pre W1 → pre.length < (items B owner reqs).length → YieldAt Fence.wide 0 Tryd.prog l #[.agg (cAsk x)] W1 fun e W' => (e = .returned (.bool true) ∧ J (pre ++ [x]) W' ∧ Kp w.heap.size W1 W') ∨ (e = .returned (.bool false) ∧ Jx (pre ++ [x]) W')) :
    Calls Tryd.prog 59 #[.func (.yield l) #[] #[], .pointer (some ⟨bo, 0, none⟩), .pointer (some ⟨bt, 0, none⟩), .pointer (some ⟨bc, 0, none⟩)] W fun e W' => (∃ v, e = .returned v) ∧ ((∃ ys, ys = items B owner reqs ∧ J ys W') ∨ (∃ pre, pre <+: items B owner reqs ∧ Jx pre W')) := by
  obtain ⟨ad, Ae, ce, rfl, xe, hle, hCe⟩ := el_at h.read owner hn0 hn1
  have HCAP := Aside0.mk h
  have HE := Aside0.mk (And.intro hCe (pw_cell_below h.below xe))
  have HLE := Aside0.mk hle
  have HSH : Aside0 ((B.getD owner.toNat []).length ≤ 1000) := ⟨by
    have hlt : owner.toNat < B.length := by omega
    rw [List.getD_eq_getElem?_getD, List.getElem?_eq_getElem hlt]
    exact h.short _ (List.getElem_mem hlt)⟩
  have hit : items B owner reqs = (pcs (B.getD owner.toNat []) reqs).map parse1 := by unfold items; rw [if_neg (by omega)]
  rw [hit] at hY ⊢
  have HY := Aside0.mk hY
  have HJ := Aside0.mk hJ
  have H0 := Aside0.mk h0
  clear hY hJ h0 hit hCe xe hle
  have c1 := h.owner
  have c2 := h.tick
  have HO := Aside0.mk c1
  have HT := Aside0.mk c2
  have HQ := Aside0.mk h.reqs
  have d1 : decide (owner < 0) = false := decide_eq_false (by omega)
  have d2 : decide (owner ≥ (B.length : Int)) = false := decide_eq_false (by omega)
  have d3 : decide ((B.length : Int) ≤ owner) = false := decide_eq_false (by omega)
  clear h
  generalize hL : B.getD owner.toNat [] = L at HE HLE HSH HY ⊢
  clear hL
  go_enter Tryd.func59, Tryd.ntmps59
  go_upto_region 1 with fail
  clear c1 c2
  refine wp_region_held_drew (S := fun w' => Below W.heap.size W w') (by kernel_rfl) (pw_below_drewN (Below.refl _ _) 1) (fun hHeld => ?_)
  generalize W.drew = W0 at hHeld ⊢
  refine tk (i := 0) (v := .pointer (some ⟨bt, 0, none⟩)) 18 rfl (Or.inl ⟨by rfl, fun w _ => by go_simp; try (first | with_reducible rfl | rfl)⟩) hHeld ?_
  try simp only [putL, putN, List.set]
  refine tk (i := 1) (v := .slice (some ad) B.length c) 19 rfl (Or.inl ⟨by rfl, fun w' hS => by have hq := pw_cell_below hS HT.out; go_simp⟩) hHeld ?_
  try simp only [putL, putN, List.set]
  refine tk (i := 2) (v := .int .i64 owner) 20 rfl (Or.inl ⟨by rfl, fun w' hS => by have hq := pw_cell_below hS HO.out; go_simp⟩) hHeld ?_
  try simp only [putL, putN, List.set]
  refine tk (i := 3) (v := .pointer (some (ad.add owner.toNat))) 21 rfl (Or.inl ⟨by rfl, fun w _ => by go_simp; try (first | with_reducible rfl | rfl)⟩) hHeld ?_
  try simp only [putL, putN, List.set]
  refine tk (i := 4) (v := .slice Ae L.length ce) 22 rfl (Or.inl ⟨by rfl, fun w' hS => by have hq := pw_cell_below hS HE.out.2; go_simp⟩) hHeld ?_
  try simp only [putL, putN, List.set]
  refine tk (i := 5) (v := .pointer (some ⟨bc, 6, none⟩)) 23 rfl (Or.inl ⟨by rfl, fun w _ => by go_simp; try (first | with_reducible rfl | rfl)⟩) hHeld ?_
  try simp only [putL, putN, List.set]
  refine tk (i := 6) (v := .int .i64 reqs) 24 rfl (Or.inl ⟨by rfl, fun w' hS => by have hq := pw_cell_below hS HQ.out; go_simp⟩) hHeld ?_
  try simp only [putL, putN, List.set]
  refine tk (i := 9) (v := .int .i64 0) 27 rfl (Or.inl ⟨by rfl, fun w _ => by go_simp; try (first | with_reducible rfl | rfl)⟩) hHeld ?_
  try simp only [putL, putN, List.set]
  refine wpAnyH_ready (rs := [7]) (by kernel_rfl) (by simp) ?_
  refine AllReadyH.cons rfl (fun K hK => ?_) AllReadyH.nil
  go_simp
  go_wp2_with (first | (go_at_call 60; refine (Split_all Ae ce L reqs w _ (below_step HCAP.out.below hHeld) HE.out.1 HLE.out HSH.out).mono ?_; rintro e1 W1 ⟨v, rfl, hb1, hv⟩; have HX := Aside0.mk (And.intro (below_step hHeld hb1) hv); clear hb1 hv))
  clear hHeld
  refine hK.out _ _ HX.out.1 (fun hHeld => ?_)
  clear hK K
  try simp only [putL, putN, List.set]
  have hJW : J [] W1 := HJ.out [] W W1 none H0.out (grown_of_below HX.out.1) (fun r e => by cases e)
  have HBW : Aside0 (Below w.heap.size w W1) := ⟨below_step HCAP.out.below HX.out.1⟩
  rcases HX.out.2 with ⟨hp, A', c', rfl⟩ | ⟨ad', g, cap, cs, hae, rfl, hcs, hcell⟩
  · skip
    refine tk (i := 8) (v := .int .i64 0) 26 rfl (Or.inl ⟨by rfl, fun w _ => by go_simp; try (first | with_reducible rfl | rfl)⟩) hHeld ?_
    try simp only [putL, putN, List.set]
    refine wpAnyH_done (by kernel_rfl) ?_ _
    clear hHeld
    have HJW := Aside0.mk hJW
    have HP := Aside0.mk hp
    clear hJW hp
    go_wp2
    go_loopw [27] (fun i wr => i = .int .i64 0 ∧ wr = W1) (fun _ _ => 0)
    case atStart => exact ⟨rfl, rfl⟩
    case round =>
      obtain ⟨rfl, rfl⟩ := hrel
      go_wp2
      go_end0
      exact ⟨⟨_, rfl⟩, .inl ⟨_, by rw [HP.out]; rfl, HJW.out⟩⟩
  · skip
    refine tk (i := 8) (v := .int .i64 ((pcs L reqs).length : Int)) 26 rfl (Or.inl ⟨by rfl, fun w _ => by go_simp; try (first | with_reducible rfl | rfl)⟩) hHeld ?_
    try simp only [putL, putN, List.set]
    refine wpAnyH_done (by kernel_rfl) ?_ _
    clear hHeld
    obtain ⟨m, hm⟩ : ∃ m, (pcs L reqs).length = m := ⟨_, rfl⟩
    have HMM := Aside0.mk hm
    have HCS := Aside0.mk hcell
    have HINIT : Aside0 (Below w.heap.size w W1 ∧ W1.heap[g]? = some (Obj.cells cs 38 (0, 0)) ∧ Below W.heap.size W W1 ∧ J (((pcs L reqs).map parse1).take 0) W1) := ⟨HBW.out, hcs, HX.out.1, hJW⟩
    clear hJW hcs hcell HX
    rw [hm]
    clear hm
    subst hae
    go_wp2
    go_loopw [27] (fun i wr => ∃ j : Nat, Aside0 (j ≤ m) ∧ i = .int .i64 (j : Int) ∧ Aside0 (Below w.heap.size w wr ∧ wr.heap[g]? = some (Obj.cells cs 38 (0, 0)) ∧ W.heap.size ≤ wr.heap.size ∧ J (((pcs L reqs).map parse1).take j) wr)) (fun i _ => m - (intOf i).toNat)
    case atStart => exact ⟨0, ⟨Nat.zero_le _⟩, rfl, ⟨HINIT.out.1, HINIT.out.2.1, HINIT.out.2.2.1.size, HINIT.out.2.2.2⟩⟩
    case round =>
      obtain ⟨j, hjm, rfl, hI⟩ := hrel
      by_cases hlt : (j : Int) < (m : Int)
      · have HLT := Aside0.mk hlt
        have d5 : decide ((j : Int) < (m : Int)) = true := decide_eq_true hlt
        have hge : (0 : Int) ≤ (j : Int) := by omega
        have hclen : (chunk L j).length = min (L.length - 16 * j) 16 := by unfold chunk; rw [List.length_take, List.length_drop]; omega
        have hcj : wr.cell? ⟨g, j, none⟩ = some (.slice (some (ad'.add (16 * j))) (chunk L j).length (chunk L j).length) := by
          have h1 := HCS.out j (by have := HMM.out; omega)
          rw [hclen]
          simp only [World.cell?, hI.out.2.1]
          simpa [chV] using h1
        have PC : Aside0 (Kd.C (Kd.int .u8) w (some (ad'.add (16 * j))) (chunk L j).length (chunk L j)) := ⟨by
          have hm16 : 16 * j + (chunk L j).length ≤ L.length := by
            have h2 : m = min ((L.length + 15) / 16) reqs.toNat := by rw [← HMM.out]; unfold pcs; rw [List.length_map, List.length_range]
            omega
          have := C_sub HE.out.1 (16 * j) (chunk L j).length hm16
          have e : (L.drop (16 * j)).take (chunk L j).length = chunk L j := by
            rw [hclen]; unfold chunk
            rw [← List.take_take]
            exact List.take_of_length_le (by rw [List.length_take, List.length_drop]; omega)
          rw [e] at this
          exact this⟩
        clear hclen
        obtain ⟨x, hx⟩ : ∃ x, parse1 (chunk L j) = x := ⟨_, rfl⟩
        have HPC : Aside0 (Calls Tryd.prog 61 #[.slice (some (ad'.add (16 * j))) (chunk L j).length (chunk L j).length] wr fun e' w' => ∃ e, e' = .returned (.tuple #[.agg (cReq x.f0.f0 x.f0.f1 x.f0.f2 x.f0.f3 x.f0.f4), .int .i64 e]) ∧ (e == 0) = x.f1 ∧ Below wr.heap.size wr w') := ⟨by
          rw [← hx]
          exact Parse_calls (some (ad'.add (16 * j))) (chunk L j).length (chunk L j) wr (Kd.C_below PC.out hI.out.1) (Nat.le_refl _) (HCAP.out.glob.below hI.out.1)⟩
        have HXX : Aside0 (((pcs L reqs).map parse1).take (j + 1) = ((pcs L reqs).map parse1).take j ++ [x]) := ⟨by
          have hj1 : j < ((pcs L reqs).map parse1).length := by rw [List.length_map, HMM.out]; omega
          rw [List.take_succ_eq_append_getElem hj1]
          congr 2
          rw [List.getElem_map, ← hx]
          congr 1
          unfold pcs
          rw [List.getElem_map, List.getElem_range]⟩
        clear hx
        go_upto_region 5 with (first | (go_at_call 61; refine HPC.out.mono ?_; rintro e2 W2 ⟨e, rfl, he, hb2⟩; have HZ := Aside0.mk hb2; have HEE := Aside0.mk he; clear hb2 he))
        clear hcj
        change Code.wp Tryd.prog _ _ _ (W2.alloc (.cells (cReq x.f0.f0 x.f0.f1 x.f0.f2 x.f0.f3 x.f0.f4) 55))
        have HB3 : Aside0 (Below wr.heap.size wr (W2.alloc (.cells (cReq x.f0.f0 x.f0.f1 x.f0.f2 x.f0.f3 x.f0.f4) 55))) := ⟨below_alloc HZ.out _⟩
        have hbk := heap_alloc_new W2 (.cells (cReq x.f0.f0 x.f0.f1 x.f0.f2 x.f0.f3 x.f0.f4) 55)
        generalize W2.alloc (.cells (cReq x.f0.f0 x.f0.f1 x.f0.f2 x.f0.f3 x.f0.f4) 55) = W3 at HB3 hbk ⊢
        generalize W2.heap.size = g3 at hbk ⊢
        obtain ⟨q0, q1, q2, q3, q4⟩ := req_cells hbk
        clear hbk
        obtain ⟨fn, tmps, assign, body, hy, hR⟩ := HY.out _ x W3 (HJ.out _ wr W3 none hI.out.2.2.2 (grown_of_below HB3.out) (fun r e => by cases e)) (by rw [List.length_take, List.length_map, HMM.out]; have := HLT.out; omega)
        have he := HEE.out
        refine (wpIn_wide (n := 1)).1 ?_
        gi_wp2
        refine hR.mono ?_
        clear hR hy q0 q1 q2 q3 q4 he
        rintro e3 W4 (⟨rfl, hJ4, hk4⟩ | ⟨rfl, hJx⟩)
        · have HJ4 := Aside0.mk hJ4
          have HK4 := Aside0.mk hk4
          clear hJ4 hk4
          gi_wp2
          go_wp2
          have hwj : wrap64 ((j : Int) + 1) = (j : Int) + 1 := by
            have h2 : m = min ((L.length + 15) / 16) reqs.toNat := by rw [← HMM.out]; unfold pcs; rw [List.length_map, List.length_range]
            have := HSH.out
            have := HLT.out
            clear d5 hge
            unfold wrap64
            omega
          have hh : m - ((j : Int) + 1).toNat < m - ((j : Int)).toNat := by have := HLT.out; clear d5 hge; omega
          go_roundw
          case rel =>
            refine ⟨j + 1, ⟨by have := HLT.out; omega⟩, by rw [hwj]; rfl, ⟨(below_step hI.out.1 HB3.out).trans HK4.out.1, HK4.out.2 g cs 38 (by decide) (by decide) (obj_below HB3.out hI.out.2.1), ?_, ?_⟩⟩
            · have h1 := HB3.out.size
              have h2 := hI.out.2.2.1
              have h3 := HK4.out.1.size
              omega
            · rw [HXX.out]; exact HJ4.out
          case measure =>
            simp only [hwj]
            exact hh
        · have HJX := Aside0.mk hJx
          clear hJx
          gi_wp2
          go_wp2
          (try simp only [Exit.inBlock, Exit.then])
          refine bodyPost_ret (results_none rfl _ _ _) rfl ?_
          refine ⟨⟨_, rfl⟩, .inr ⟨_, ?_, HJX.out⟩⟩
          rw [← HXX.out]
          exact List.take_prefix _ _
      · have HLT := Aside0.mk hlt
        have d5 : decide ((j : Int) < (m : Int)) = false := decide_eq_false hlt
        go_wp2
        go_end0
        have hfin := hI.out.2.2.2
        rw [List.take_of_length_le (by rw [List.length_map, HMM.out]; have := HLT.out; omega)] at hfin
        first | exact ⟨⟨_, rfl⟩, .inl hfin⟩ | exact ⟨⟨_, rfl⟩, .inl ⟨_, rfl, hfin⟩⟩
end Go.Proofs.YtoliipbmcekciaaDoor.QDc
namespace Go.Proofs.YtoliipbmcekciaaDoor.QDc
open Go.RowKit Go.Shelf Go.Proofs.YtoliipbmcekciaaDoorW.PrintWords Go.Proofs.YtoliipbmcekciaaDoorW.PrintLast Go.Proofs.YtoliipbmcekciaaDoorW.PrintMore
set_option linter.unusedVariables false
set_option linter.unusedSimpArgs false
attribute [local go_sem] Oper.semAt_some
set_option maxRecDepth 100000 in
set_option maxHeartbeats 2000000 in
theorem pieces_calls (c0 c1 c2 c3 c4 c5 c6 c7 t0 t1 : Value) (owner : Int) (w : World) :
    Calls Tryd.prog 32 #[.agg #[c0, c1, c2, c3, c4, c5, c6, c7], .agg #[t0, t1], .int .i64 owner] w fun e w' => e = .returned (.func (.func 59) #[] #[.pointer (some ⟨w.heap.size + 1 + 1, 0, none⟩), .pointer (some ⟨w.heap.size + 1, 0, none⟩), .pointer (some ⟨w.heap.size, 0, none⟩)]) ∧ w' = ((w.alloc (.cells #[c0, c1, c2, c3, c4, c5, c6, c7] 28)).alloc (.cells #[t0, t1] 31)).alloc (.cells #[.int .i64 owner] 3) := by
  go_enter Tryd.func32, Tryd.ntmps32
  go_wp2
  go_ret
  exact ⟨rfl, rfl⟩
abbrev flatAsk (l : List S75) : List Value := l.flatMap fun x => (cAsk x).toList
theorem flatAsk_snoc (l : List S75) (x : S75) : flatAsk (l ++ [x]) = flatAsk l ++ (cAsk x).toList := by simp [flatAsk]
theorem pcs_short (l : List Int) (reqs : Int) (h : l.length ≤ 1000) : (pcs l reqs).length ≤ 1000 := by unfold pcs; rw [List.length_map, List.length_range]; omega
theorem items_short {B : List (List Int)} (h : ∀ x ∈ B, x.length ≤ 1000) (owner reqs : Int) : (items B owner reqs).length ≤ 1000 := by
  unfold items
  split
  · simp
  · rename_i hn
    rw [List.length_map]
    refine pcs_short _ _ ?_
    have hlt : owner.toNat < B.length := by omega
    rw [List.getD_eq_getElem?_getD, List.getElem?_eq_getElem hlt]
    exact h _ (List.getElem_mem hlt)
theorem Kp_t {n₀ : Nat} {A B C : World} (h : Kp n₀ A B) (k : Kp n₀ B C) : Kp n₀ A C := ⟨h.1.trans k.1, fun b cs t h1 h2 hb => k.2 b cs t h1 h2 (h.2 b cs t h1 h2 hb)⟩
theorem Kp_b {n₀ : Nat} {w : World} (hn : n₀ ≤ w.heap.size) (W : World) (l : Nat) (o o' : Obj) (hl : w.heap.size ≤ l) (h : W.heap[l]? = some o) (h1 : o.isCells = false) (h2 : o.isWalk = false) : Kp n₀ W (W.putObj l o') := by
  refine ⟨belowK_b hn W l o o' hl h h1 h2, fun b cs t _ _ hb => ?_⟩
  have hne : b ≠ l := fun e => by subst e; rw [hb] at h; cases h; cases h1
  exact ((grownBy_putObj' W l o').block b (Array.getElem?_eq_some_iff.1 hb).1 (fun e => hne (Option.some.inj e))).trans hb
theorem cells_new (W : World) (cs : Array Value) (t : TypeId) (j : Nat) (u : Value) (h : cs.toList[j]? = some u) : (W.alloc (.cells cs t)).cell? (Addr.add ⟨W.heap.size, 0, none⟩ j) = some u := by
  have e : cs[j]? = some u := by rw [← Array.getElem?_toList]; exact h
  have e2 : (Addr.add ⟨W.heap.size, 0, none⟩ j) = ⟨W.heap.size, j, none⟩ := by rw [Addr.add_mid, Nat.zero_add]
  rw [e2]
  simp only [World.cell?]
  rw [World.alloc_heap_new]
  simpa using e
theorem ones_ask (x : S75) : ∀ u ∈ (cAsk x).toList, u.oneCell' = true := by
  intro u hu
  simp only [List.mem_cons, List.not_mem_nil, or_false] at hu
  rcases hu with rfl | rfl | rfl | rfl | rfl | rfl <;> rfl
/-- Behind an append and the store of what it made: blocks of other types are as they were. -/
theorem Kp_app {W w1 : World} {n₀ B : Nat} {v v' : Value} {k m : Nat} {xs ys : List Value} {tmp : Obj} (hrow : W.ownsRow n₀ 75 6 v k xs) (hv : Boxed W B 34 v) (hB : n₀ ≤ B) (hown' : w1.ownsRow n₀ 75 6 v' m ys) (hgrow : (W.alloc tmp).grownBy w1 v.ownBlock) :
    ∀ (b : Nat) (cs : Array Value) (t : TypeId), t ≠ 34 → t ≠ 75 → W.heap[b]? = some (Obj.cells cs t (0, 0)) → (w1.setCell ⟨B, 0, none⟩ v').heap[b]? = some (Obj.cells cs t (0, 0)) := by
  intro b cs t h34 h75 hb
  have hne : b ≠ B := fun e => by subst e; rw [show W.heap[b]? = _ from hv] at hb; cases hb; exact h34 rfl
  have hlt := (Array.getElem?_eq_some_iff.1 hb).1
  rw [Below.heap_setCell _ _ _ b (by simpa using hne)]
  refine (hgrow.block b (by simp; omega) (fun e => ?_)).trans (((World.grownBy_alloc W tmp none).block b hlt (by simp)).trans hb)
  rcases hrow.2 with ⟨rfl, _⟩ | ⟨g, cap, cur, rfl, _, hgb, _⟩
  · simp [Value.ownBlock] at e
  · obtain rfl : b = g := by simpa [Value.ownBlock] using e
    rw [hgb] at hb; cases hb; exact h75 rfl
/-- The contract of the value that pieces hands back. -/
theorem pieces_seq (w W : World) (bo bt bc : Nat) (owner reqs : Int) (A : Option Addr) (c : Nat) (B : List (List Int)) (h : Cap w W bo bt bc owner reqs A c B) (h1 : bo < W.heap.size) (h2 : bt < W.heap.size) (h3 : bc < W.heap.size) :
    SeqStopsK Fence.wide 1 Tryd.prog 59 #[.pointer (some ⟨bo, 0, none⟩), .pointer (some ⟨bt, 0, none⟩), .pointer (some ⟨bc, 0, none⟩)] (fun x : S75 => #[.agg (cAsk x)]) (Kp w.heap.size) (fun l => l = items B owner reqs) (fun l => l <+: items B owner reqs) (items B owner reqs).length W := by
  intro l J Jx W' hb hJ hJx hY h0
  have h' : Cap w W' bo bt bc owner reqs A c B := ⟨h.below.trans (hb.mono h.below.size), pw_cell_below hb h.owner, pw_cell_below hb h.tick, pw_cell_below hb h.reqs, h.len, h.read, h.short, h.glob⟩
  refine callsIn_wide.2 ?_
  by_cases hn : owner < 0 ∨ (B.length : Int) ≤ owner
  · refine (pieces1_not l w W' bo bt bc owner reqs A c B h' hn).mono ?_
    rintro e w1 ⟨rfl, rfl⟩
    exact ⟨⟨_, rfl⟩, .inl ⟨[], by unfold items; rw [if_pos hn], h0⟩⟩
  · exact pieces1_in l w W' bo bt bc owner reqs A c B h' (by omega) (by omega) J Jx hJ h0 hY
set_option maxRecDepth 100000 in
set_option maxHeartbeats 4000000 in
theorem Tick_walk (c0 c1 c2 c3 c4 c5 c7 t1 : Value) (owner reqs : Int) (A : Option Addr) (c : Nat) (B : List (List Int)) (w : World) (hlen : B.length ≤ c) (hread : Kd.C (Kd.slice 5 (Kd.int .u8)) w A B.length B) (hshort : ∀ x ∈ B, x.length ≤ 1000) (hglob : Glob w) :
    Calls Tryd.prog 12 #[.agg #[c0, c1, c2, c3, c4, c5, .int .i64 reqs, c7], .agg #[.slice A B.length c, t1], .int .i64 owner] w fun e w' => ∃ v, e = .returned v ∧ w'.ownsRow w.heap.size 75 6 v (items B owner reqs).length (flatAsk (items B owner reqs)) ∧ Below w.heap.size w w' := by
  have hit := items_short hshort owner reqs
  obtain ⟨i0, hi, hz0, hz1, hz2⟩ := info_parts info75
  have HR := Aside0.mk (And.intro hlen (And.intro hread (And.intro hshort hglob)))
  clear hlen hread hshort hglob
  refine (callsIn_wide (n := 2)).1 ?_
  refine callsIn_of_wp_marks Tryd.func12 rfl trivial ?_ rfl
  simp only [Tryd.ntmps12, List.size_toArray, List.length_cons, List.length_nil, Nat.reduceAdd, Nat.reduceSub, Array.replicate_succ, Array.replicate_zero, List.push_toArray, List.append_toArray, List.nil_append, List.cons_append]
  gi_wp2
  refine ⟨trivial, (callsIn_wide.2 (pieces_calls _ _ _ _ _ _ _ _ _ _ _ _)).mono ?_⟩
  rintro e w2 ⟨rfl, rfl⟩
  gi_wp2
  have x6 := Boxed.new (((((w.alloc (Obj.cells #[c0, c1, c2, c3, c4, c5, Value.int IntKind.i64 reqs, c7] 28)).alloc (Obj.cells #[Value.slice A B.length c, t1] 31)).alloc (Obj.cells #[Value.slice none 0 0] 34)).alloc (Obj.cells #[c0, c1, c2, c3, c4, c5, Value.int IntKind.i64 reqs, c7] 28)).alloc (Obj.cells #[Value.slice A B.length c, t1] 31)) 3 (.int .i64 owner)
  have x5 : ((((((w.alloc (Obj.cells #[c0, c1, c2, c3, c4, c5, Value.int IntKind.i64 reqs, c7] 28)).alloc (Obj.cells #[Value.slice A B.length c, t1] 31)).alloc (Obj.cells #[Value.slice none 0 0] 34)).alloc (Obj.cells #[c0, c1, c2, c3, c4, c5, Value.int IntKind.i64 reqs, c7] 28)).alloc (Obj.cells #[Value.slice A B.length c, t1] 31)).alloc (Obj.cells #[Value.int IntKind.i64 owner] 3)).cell? ⟨w.heap.size + 1 + 1 + 1 + 1, 0, none⟩ = some (.slice A B.length c) := by go_simp
  have x4 : ((((((w.alloc (Obj.cells #[c0, c1, c2, c3, c4, c5, Value.int IntKind.i64 reqs, c7] 28)).alloc (Obj.cells #[Value.slice A B.length c, t1] 31)).alloc (Obj.cells #[Value.slice none 0 0] 34)).alloc (Obj.cells #[c0, c1, c2, c3, c4, c5, Value.int IntKind.i64 reqs, c7] 28)).alloc (Obj.cells #[Value.slice A B.length c, t1] 31)).alloc (Obj.cells #[Value.int IntKind.i64 owner] 3)).cell? ⟨w.heap.size + 1 + 1 + 1, 6, none⟩ = some (.int .i64 reqs) := by go_simp
  have x3 := (((Boxed.new ((w.alloc (Obj.cells #[c0, c1, c2, c3, c4, c5, Value.int IntKind.i64 reqs, c7] 28)).alloc (Obj.cells #[Value.slice A B.length c, t1] 31)) 34 (.slice none 0 0)).alloc (Obj.cells #[c0, c1, c2, c3, c4, c5, Value.int IntKind.i64 reqs, c7] 28)).alloc (Obj.cells #[Value.slice A B.length c, t1] 31)).alloc (Obj.cells #[Value.int IntKind.i64 owner] 3)
  have xb : Below w.heap.size w ((((((w.alloc (Obj.cells #[c0, c1, c2, c3, c4, c5, Value.int IntKind.i64 reqs, c7] 28)).alloc (Obj.cells #[Value.slice A B.length c, t1] 31)).alloc (Obj.cells #[Value.slice none 0 0] 34)).alloc (Obj.cells #[c0, c1, c2, c3, c4, c5, Value.int IntKind.i64 reqs, c7] 28)).alloc (Obj.cells #[Value.slice A B.length c, t1] 31)).alloc (Obj.cells #[Value.int IntKind.i64 owner] 3)) := ((((((Below.refl _ w).alloc (Nat.le_refl _) _).alloc (by simp) _).alloc (by simp; omega) _).alloc (by simp; omega) _).alloc (by simp; omega) _).alloc (by simp; omega) _
  have xs : ((((((w.alloc (Obj.cells #[c0, c1, c2, c3, c4, c5, Value.int IntKind.i64 reqs, c7] 28)).alloc (Obj.cells #[Value.slice A B.length c, t1] 31)).alloc (Obj.cells #[Value.slice none 0 0] 34)).alloc (Obj.cells #[c0, c1, c2, c3, c4, c5, Value.int IntKind.i64 reqs, c7] 28)).alloc (Obj.cells #[Value.slice A B.length c, t1] 31)).alloc (Obj.cells #[Value.int IntKind.i64 owner] 3)).heap.size = w.heap.size + 6 := by simp
  simp only [World.size_alloc] at x6 x3
  generalize ((((((w.alloc (Obj.cells #[c0, c1, c2, c3, c4, c5, Value.int IntKind.i64 reqs, c7] 28)).alloc (Obj.cells #[Value.slice A B.length c, t1] 31)).alloc (Obj.cells #[Value.slice none 0 0] 34)).alloc (Obj.cells #[c0, c1, c2, c3, c4, c5, Value.int IntKind.i64 reqs, c7] 28)).alloc (Obj.cells #[Value.slice A B.length c, t1] 31)).alloc (Obj.cells #[Value.int IntKind.i64 owner] 3)) = W0 at x6 x5 x4 x3 xb xs ⊢

  have hcap : Cap w W0 (w.heap.size + 1 + 1 + 1 + 1 + 1) (w.heap.size + 1 + 1 + 1 + 1) (w.heap.size + 1 + 1 + 1) owner reqs A c B := ⟨xb, x6.cell, x5, x4, HR.out.1, HR.out.2.1, HR.out.2.2.1, HR.out.2.2.2⟩
  refine wpIn_rangeFunc_ownH (F := Fence.wide) (n := 2) (by rfl) (by decide) (gf := 59) (lb := #[.pointer (some ⟨w.heap.size + 1 + 1 + 1 + 1 + 1, 0, none⟩), .pointer (some ⟨w.heap.size + 1 + 1 + 1 + 1, 0, none⟩), .pointer (some ⟨w.heap.size + 1 + 1 + 1, 0, none⟩)]) (by rfl) (by trivial) (enters_of Tryd.func59 (by kernel_rfl) rfl)
    (pieces_seq w W0 _ _ _ owner reqs A c B hcap (by omega) (by omega) (by omega)) Kp_t (Kp_b (by omega)) (Below.refl _ _) (fun _ => rfl)
    (fun pre W => (∃ v, Boxed W (w.heap.size + 1 + 1) 34 v ∧ W.ownsRow w.heap.size 75 6 v pre.length (flatAsk pre) ∧ True) ∧ Below w.heap.size w W)
    (fun _ _ _ => False)
    (OwnFrom.and (Own.from (holdsRow_own w.heap.size (w.heap.size + 1 + 1) 34 75 6 (fun pre => pre.length) flatAsk (fun _ _ => True)) _) (ownFrom_below (Nat.le_refl _) (by omega)))
    (fun _ _ _ _ _ hs _ _ => hs)
    ⟨⟨_, x3, ⟨rfl, .inl ⟨rfl, rfl⟩⟩, trivial⟩, xb⟩
    (fun x a' W => ∃ Bx, w.heap.size + 1 + 1 < Bx ∧ W.heap[Bx]? = some (.cells (cAsk x) 75 (0, 0)) ∧ ∃ z13, a' = { tmps := #[.agg #[c0, c1, c2, c3, c4, c5, .int .i64 reqs, c7], .agg #[.slice A B.length c, t1], .int .i64 owner, .pointer (some ⟨w.heap.size, 0, none⟩), .pointer (some ⟨w.heap.size + 1, 0, none⟩), undef, .slice none 0 0, .pointer (some ⟨w.heap.size + 1 + 1, 0, none⟩), .pointer (some ⟨Bx, 0, none⟩), .agg #[c0, c1, c2, c3, c4, c5, .int .i64 reqs, c7], .agg #[.slice A B.length c, t1], .int .i64 owner, .func (.func 59) #[] #[.pointer (some ⟨w.heap.size + 1 + 1 + 1 + 1 + 1, 0, none⟩), .pointer (some ⟨w.heap.size + 1 + 1 + 1 + 1, 0, none⟩), .pointer (some ⟨w.heap.size + 1 + 1 + 1, 0, none⟩)], z13, undef, undef, undef, undef, undef], defers := [] })
    (fun x a' _ X Y row hs hg hr => by
      obtain ⟨Bx, h1, h2, h3⟩ := hs
      refine ⟨Bx, h1, ?_, h3⟩
      refine (hg.block Bx (Array.getElem?_eq_some_iff.1 h2).1 (fun e => ?_)).trans h2
      obtain ⟨_, o, ho, hc⟩ := hr Bx e.symm
      rw [h2] at ho; cases ho; cases hc)
    ?assign ?body ?done ?stop
  case assign =>
    rintro l pre x W K ⟨⟨v, bv, ho, _⟩, hB1⟩ hK
    gi_wp2
    have hs := hB1.size
    refine hK _ _ ((KeepsOthers.alloc _ _).from _) ⟨(Below.refl _ W).alloc hs _, fun b cs t _ _ hb => ((World.grownBy_alloc W _ none).block b (Array.getElem?_eq_some_iff.1 hb).1 (by simp)).trans hb⟩ ⟨⟨v, bv.alloc _, ho.alloc _, trivial⟩, hB1.alloc hs _⟩ ⟨W.heap.size, bv.lt, World.alloc_heap_new W _, _, rfl⟩
  case body =>
    rintro l pre x a' W hl ⟨r, hr⟩ ⟨⟨v, bv, ho, _⟩, hB1⟩ ⟨Bx, hBx, bX, z13, rfl⟩ hlt
    have y0 : W.cell? ⟨Bx, 0, none⟩ = some (.int .u8 x.f0.f0) := by simp [World.cell?, bX]
    have y1 : W.cell? ⟨Bx, 1, none⟩ = some (.int .u8 x.f0.f1) := by simp [World.cell?, bX]
    have y2 : W.cell? ⟨Bx, 2, none⟩ = some (.int .u8 x.f0.f2) := by simp [World.cell?, bX]
    have y3 : W.cell? ⟨Bx, 3, none⟩ = some (.int .u32 x.f0.f3) := by simp [World.cell?, bX]
    have y4 : W.cell? ⟨Bx, 4, none⟩ = some (.int .u64 x.f0.f4) := by simp [World.cell?, bX]
    have y5 : W.cell? ⟨Bx, 5, none⟩ = some (.bool x.f1) := by simp [World.cell?, bX]
    have cO := bv.cell
    have fO := bv.frozen
    have hs := hB1.size
    clear x6 x5 x4 x3 hcap
    gi_wp2_with (gi_at_builtin; refine wpListIn_append_own _ rfl _ _ 34 rfl w.heap.size 75 i0 _ 6 24 (by kernel_rfl) hi hz0 hz1 hz2 rfl (by decide) _ _ _ rfl (ho.alloc _) _ 1 1 (cAsk x).toList rfl rfl (cells_new _ _ _) (ones_ask x) (by unfold maxLen; omega) (by omega) (by simp; omega) ?_; intro v' w1 hown' hgrow _; obtain ⟨g', cap', rfl⟩ := ownsRow_succ hown'; obtain ⟨hv1, hv2, hr2, hk2, hb2⟩ := bv.appended (by decide) ho hs (by omega) hown' hgrow; have hkp := Kp_app ho bv (by omega) hown' hgrow; have hc1 := hv1.cell; have hf1 := hv1.frozen)
    refine ⟨hk2.from _, ⟨hb2, hkp⟩, ⟨_, hv2, (by rw [flatAsk_snoc, List.length_append]; exact hr2 : World.ownsRow _ _ _ _ _ (pre ++ [x]).length (flatAsk (pre ++ [x])))⟩, hB1.trans hb2⟩
  case done =>
    rintro D zs W hD rfl ⟨⟨v, bv, ho, _⟩, hB1⟩ hK
    have cO := bv.cell
    gi_wp2
    refine ⟨by simp, .inl ⟨_, _, rfl, run_takeDeferred hK, ?_⟩⟩
    exact ⟨_, results_tmp rfl _ _ _, v, rfl, ownsRow_putObj ho _ hK rfl, hB1.trans (belowK_b (w := w) (Nat.le_refl _) W D _ _ (by omega) hK rfl rfl)⟩
  case stop =>
    rintro D c pre W _ _ h _
    exact h.elim
end Go.Proofs.YtoliipbmcekciaaDoor.QDc
namespace Go.Proofs.YtoliipbmcekciaaDoor.QDc
open Go.RowKit Go.Shelf Go.Proofs.YtoliipbmcekciaaDoorW.PrintWords Go.Proofs.YtoliipbmcekciaaDoorW.PrintLast Go.Proofs.YtoliipbmcekciaaDoorW.PrintMore
set_option linter.unusedVariables false
set_option linter.unusedSimpArgs false
theorem reps_ask (w : World) (base : Nat) (ok : Nat → Prop) : ∀ l : List S75, Reps (k75.M w base ok) k75.sz l (flatAsk l) := by
  intro l
  have key : ∀ m, m ≤ l.length → Reps (k75.M w base ok) k75.sz (l.take m) (flatAsk (l.take m)) := by
    intro m
    induction m with
    | zero => intro _; exact Reps.none _ _
    | succ m ih =>
      intro hm
      rw [List.take_succ_eq_append_getElem (by omega), flatAsk_snoc]
      exact (ih (by omega)).snoc (k75_mkM w base ok _) rfl
  have := key l.length (Nat.le_refl _)
  rwa [List.take_length] at this
theorem Tick_calls (c0 c1 c2 c3 c4 c5 c7 t1 : Value) (owner reqs : Int) (A : Option Addr) (c : Nat) (B : List (List Int)) (w : World) (hlen : B.length ≤ c) (hread : Kd.C (Kd.slice 5 (Kd.int .u8)) w A B.length B) (hshort : ∀ x ∈ B, x.length ≤ 1000) (hglob : Glob w) :
    Calls Tryd.prog 12 #[.agg #[c0, c1, c2, c3, c4, c5, .int .i64 reqs, c7], .agg #[.slice A B.length c, t1], .int .i64 owner] w fun e w' => ∃ A' c', e = .returned (.slice A' (items B owner reqs).length c') ∧ (items B owner reqs).length ≤ c' ∧ Kd.C k75 w' A' (items B owner reqs).length (items B owner reqs) ∧ Below w.heap.size w w' := by
  refine (Tick_walk c0 c1 c2 c3 c4 c5 c7 t1 owner reqs A c B w hlen hread hshort hglob).mono ?_
  rintro e w' ⟨v, rfl, ho, hb⟩
  have hR : Kd.R k75 75 w' w.heap.size (fun _ => True) v (items B owner reqs) := ⟨fun _ _ => trivial, _, ho, reps_ask _ _ _ _⟩
  obtain ⟨A', c', rfl, hc, hC⟩ := Kd.R_reads hR
  exact ⟨A', c', rfl, hc, hC, hb⟩
end Go.Proofs.YtoliipbmcekciaaDoor.QDc

namespace Go.Proofs.YtoliipbmcekciaaDoor.QDc
open Go.RowKit Go.Proofs.YtoliipbmcekciaaDoorW.PrintWords Go.Proofs.YtoliipbmcekciaaDoorW.PrintLast Go.Proofs.YtoliipbmcekciaaDoorW.PrintMore
set_option linter.unusedVariables false
structure S31 where
  f0 : (List (List Int))
  f1 : (List Int)
def z31 : S31 := ⟨([] : List (List Int)), ([] : List Int)⟩
def k31 : Kd S31 := Kd.iso (Kd.pair (Kd.slice 38 (Kd.slice 5 (Kd.int .u8))) (Kd.slice 3 (Kd.int .i64))) (fun x : S31 => (x.f0, x.f1))
theorem k31_open {w : World} {x : S31} {cs : List Value} (h : k31.K w x cs) : ∃ A0 c0 A1 c1, cs = [.slice A0 x.f0.length c0, .slice A1 x.f1.length c1] ∧ x.f0.length ≤ c0 ∧ (Kd.slice 5 (Kd.int .u8)).C w A0 x.f0.length x.f0 ∧ x.f1.length ≤ c1 ∧ (Kd.int .i64).C w A1 x.f1.length x.f1 := by
  obtain ⟨_, _, rfl, ⟨A0, c0, rfl, l0, g0⟩, ⟨A1, c1, rfl, l1, g1⟩⟩ := h
  exact ⟨A0, c0, A1, c1, rfl, l0, g0, l1, g1⟩
end Go.Proofs.YtoliipbmcekciaaDoor.QDc

namespace Go.Proofs.YtoliipbmcekciaaDoor.QDd
open Go.RowKit Go.Shelf Go.Proofs.YtoliipbmcekciaaDoorW.PrintWords Go.Proofs.YtoliipbmcekciaaDoorW.PrintLast Go.Proofs.YtoliipbmcekciaaDoorW.PrintMore
open Go.Proofs.YtoliipbmcekciaaDoor.QDc (tk putL putN obj_below take_at yields_blk load_blk load_any store_blk blk_setCells setAll far_setCells below_setCells Glob)
set_option linter.unusedVariables false
set_option linter.unusedSimpArgs false
attribute [local go_sem] Oper.semAt_some
abbrev S31 := QDc.S31
abbrev k31 := QDc.k31
abbrev z31 := QDc.z31
abbrev kRow : Kd (List QDc.S75) := Kd.slice 75 QDc.k75
/-- The pieces of tick i. -/
def scrAt (fr : List Int) (reqs : Int) (L : List S31) (i : Nat) : List QDc.S75 := QDc.items (L.getD i z31).f0 (rd fr ((i % fr.length : Nat) : Int)) reqs
def scr (fr : List Int) (reqs : Int) (L : List S31) (m : Nat) : List (List QDc.S75) := (List.range m).map (scrAt fr reqs L)
theorem scr_len (fr : List Int) (reqs : Int) (L : List S31) (m : Nat) : (scr fr reqs L m).length = m := by unfold scr; rw [List.length_map, List.length_range]
theorem scr_snoc (fr : List Int) (reqs : Int) (L : List S31) (m : Nat) : scr fr reqs L (m + 1) = scr fr reqs L m ++ [scrAt fr reqs L m] := by unfold scr; rw [List.range_succ, List.map_append]; rfl
/-- Ticks that are read. -/
structure Ticks (A : Option Addr) (c : Nat) (L : List S31) (w : World) : Prop where
  cap : L.length ≤ c
  most : L.length ≤ 20
  read : Kd.C k31 w A L.length L
  short : ∀ t ∈ L, ∀ x ∈ t.f0, x.length ≤ 1000
theorem Ticks.below {A : Option Addr} {c : Nat} {L : List S31} {w w' : World} (h : Ticks A c L w) (hb : Below w.heap.size w w') : Ticks A c L w' := ⟨h.cap, h.most, Kd.C_below h.read hb, h.short⟩
theorem add_add' (a : Addr) (i j : Nat) : (a.add i).add j = a.add (i + j) := by
  unfold Addr.add
  by_cases hi : i = 0
  · subst hi; simp
  · by_cases hj : j = 0
    · subst hj; simp
    · rw [if_neg hi, if_neg hj, if_neg (by omega)]
      simp [Nat.add_assoc]
/-- One tick. -/
theorem tick_at {A : Option Addr} {c : Nat} {L : List S31} {w : World} (h : Ticks A c L w) (m : Nat) (hm : m < L.length) :
    ∃ ad A0 c0 A1 c1, A = some ad ∧ (∀ j v, #[Value.slice A0 (L.getD m z31).f0.length c0, Value.slice A1 (L.getD m z31).f1.length c1].toList[j]? = some v → w.cell? ((ad.add (m * 2)).add j) = some v) ∧ (L.getD m z31).f0.length ≤ c0 ∧ Kd.C (Kd.slice 5 (Kd.int .u8)) w A0 (L.getD m z31).f0.length (L.getD m z31).f0 ∧ (L.getD m z31).f1.length ≤ c1 ∧ Kd.C (Kd.int .i64) w A1 (L.getD m z31).f1.length (L.getD m z31).f1 ∧ ∀ x ∈ (L.getD m z31).f0, x.length ≤ 1000 := by
  obtain ⟨ad, cs, e, _, hK, hc⟩ := Kd.C_get h.read z31 (m : Int) (by omega) (by omega)
  rw [Int.toNat_natCast] at hK hc
  obtain ⟨A0, c0, A1, c1, rfl, l0, g0, l1, g1⟩ := QDc.k31_open hK
  refine ⟨ad, A0, c0, A1, c1, e, fun j v hj => ?_, l0, g0, l1, g1, ?_⟩
  · have := hc j v hj
    rw [show m * k31.sz + j = m * 2 + j from rfl] at this
    rw [add_add']
    exact this
  · refine h.short _ ?_
    rw [List.getD_eq_getElem?_getD, List.getElem?_eq_getElem hm]
    exact List.getElem_mem hm
/-- Tick: its row is the call's own. -/
theorem Tick_R (c0 c1 c2 c3 c4 c5 c7 t1 : Value) (owner reqs : Int) (A : Option Addr) (c : Nat) (B : List (List Int)) (w : World) (hlen : B.length ≤ c) (hread : Kd.C (Kd.slice 5 (Kd.int .u8)) w A B.length B) (hshort : ∀ x ∈ B, x.length ≤ 1000) (hglob : Glob w) :
    Calls Tryd.prog 12 #[.agg #[c0, c1, c2, c3, c4, c5, .int .i64 reqs, c7], .agg #[.slice A B.length c, t1], .int .i64 owner] w fun e w' => ∃ v, e = .returned v ∧ Kd.R QDc.k75 75 w' w.heap.size (fun _ => True) v (QDc.items B owner reqs) ∧ Below w.heap.size w w' := by
  refine (QDc.Tick_walk c0 c1 c2 c3 c4 c5 c7 t1 owner reqs A c B w hlen hread hshort hglob).mono ?_
  rintro e w' ⟨v, rfl, ho, hb⟩
  exact ⟨v, rfl, ⟨fun _ _ => trivial, _, ho, QDc.reps_ask _ _ _ _⟩, hb⟩
theorem info34 : (Tryd.prog.info? 34).map (fun i => (i.zero, i.size, i.bytes)) = some (some (.slice none 0 0), 1, 24) := by kernel_rfl
structure ScrI (C : Cf) (L : List S31) (w : World) (v : Value) (m : Nat) (wr : World) : Prop where
  o : OB C w wr
  le : m ≤ L.length
  r : Kd.R kRow 34 wr w.heap.size (fun _ => True) v (scr C.l4 C.a6 L m)
theorem ScrI.below {C : Cf} {L : List S31} {w : World} {v : Value} {m : Nat} {wr w' : World} (h : ScrI C L w v m wr) (hb : Below wr.heap.size wr w') : ScrI C L w v m w' := ⟨h.o.below hb, h.le, Kd.R_below h.r hb⟩
set_option maxRecDepth 100000 in
set_option maxHeartbeats 2000000 in
theorem Script_no (C : Cf) (A : Option Addr) (n c : Nat) (w : World) (hC : C.At w) (hL : C.Lim) (hce : (chkF C).2 ≠ 0) :
    Calls Tryd.prog 30 #[.agg C.v, .slice A n c] w fun e w' => e = .returned (.tuple #[.slice none 0 0, .int .i64 (chkF C).2]) ∧ Below w.heap.size w w' := by
  have HC := Aside0.mk hC
  have HL := Aside0.mk hL
  clear hC hL
  obtain ⟨⟨cn, ce⟩, hq⟩ : ∃ q, chkF C = q := ⟨_, rfl⟩
  rw [hq] at hce ⊢
  have HQ := Aside0.mk hq
  clear hq
  have d0 : (ce != 0) = true := by simpa using hce
  have d0' : decide (ce = 0) = false := decide_eq_false hce
  dsimp only at hce ⊢
  clear hce
  go_enter Tryd.func30, Tryd.ntmps30
  go_upto_region 1 with fail
  have HO := Aside0.mk (OB.start C w)
  generalize w.alloc (.cells C.v 28) = w2 at HO ⊢
  go_wp2_with (first | ((with_reducible refine gate_ (.load 28 (.tmp 2)) rfl ?_); refine load_blk rfl 28 (.tmp 2) rfl w.heap.size C.v 28 rfl _ HO.out.e0 Tryd.underlying28 rfl (by kernel_rfl) ?_) | (go_at_call 57; refine (confCheck_calls C _ (HC.out.below HO.out.b) HL.out).mono ?_; rintro e w3 ⟨rfl, hb⟩; rw [HQ.out]; have N3 := Aside0.mk hb; clear hb))
  go_ret2
  exact ⟨rfl, (HO.out.below N3.out).b⟩
set_option maxRecDepth 100000 in
set_option maxHeartbeats 2000000 in
theorem Script_go (C : Cf) (A : Option Addr) (c : Nat) (L : List S31) (w : World) (hC : C.At w) (hL : C.Lim) (hT : Ticks A c L w) (hg : Glob w) (hce : (chkF C).2 = 0) :
    Calls Tryd.prog 30 #[.agg C.v, .slice A L.length c] w fun e w' => ∃ v, e = .returned (.tuple #[v, .int .i64 0]) ∧ Kd.R kRow 34 w' w.heap.size (fun _ => True) v (scr C.l4 C.a6 L L.length) ∧ Below w.heap.size w w' := by
  have HC := Aside0.mk hC
  have HL := Aside0.mk hL
  have HT := Aside0.mk hT
  have HG := Aside0.mk hg
  have HF : Aside0 (1 ≤ C.l4.length ∧ C.l4.length ≤ 64) := ⟨by have := (chk_good hce).f; exact ⟨Nat.pos_of_ne_zero this.2.1, this.1⟩⟩
  obtain ⟨⟨cn, ce⟩, hq⟩ : ∃ q, chkF C = q := ⟨_, rfl⟩
  have hce' : ce = 0 := by rw [hq] at hce; exact hce
  subst hce'
  have HQ := Aside0.mk hq
  clear hq hC hL hT hg hce
  go_enter Tryd.func30, Tryd.ntmps30
  go_upto_region 1 with fail
  have HO := Aside0.mk (OB.start C w)
  generalize w.alloc (.cells C.v 28) = w2 at HO ⊢
  have hm20 : L.length ≤ 20 := HT.out.most
  have dm : decide ((L.length : Int) > 1048576) = false := decide_eq_false (by omega)
  have dm' : decide (1048576 < (L.length : Int)) = false := dm
  go_wp2_with (first | ((with_reducible refine gate_ (.load 28 (.tmp 2)) rfl ?_); refine load_blk rfl 28 (.tmp 2) rfl w.heap.size C.v 28 rfl _ HO.out.e0 Tryd.underlying28 rfl (by kernel_rfl) ?_) | (go_at_call 57; refine (confCheck_calls C _ (HC.out.below HO.out.b) HL.out).mono ?_; rintro e w3 ⟨rfl, hb⟩; rw [HQ.out]; have N3 := Aside0.mk hb; clear hb))
  have HI0 : Aside0 (ScrI C L w (.slice none 0 0) 0 w3) := ⟨⟨HO.out.below N3.out, Nat.zero_le _, Kd.R_nil _ _ _ _ _⟩⟩
  clear N3 HO
  go_loopw [8, 26] (fun o i wr => ∃ m : Nat, i = .int .i64 (m : Int) ∧ Aside0 (ScrI C L w o m wr)) (fun _ i _ => L.length - (intOf i).toNat)
  case atStart => exact ⟨0, rfl, HI0⟩
  case round =>
    clear HI0
    obtain ⟨m, rfl, hS⟩ := hrel
    by_cases h1 : m < L.length
    · have H1 := Aside0.mk h1
      have d1 : decide ((m : Int) < (L.length : Int)) = true := decide_eq_true (by omega)
      have hx0 : (0 : Int) ≤ (m : Int) := by omega
      have hx1 : (m : Int) < (L.length : Int) := by omega
      obtain ⟨ad, A0, c0, A1, c1, eA, hcell, l0, g0, l1, g1, hsh⟩ := tick_at (HT.out.below hS.out.o.b) m h1
      subst eA
      obtain ⟨t, ht⟩ : ∃ t, L.getD m z31 = t := ⟨_, rfl⟩
      rw [ht] at hcell l0 g0 l1 g1 hsh
      obtain ⟨ow, how⟩ : ∃ q, rd C.l4 ((m % C.l4.length : Nat) : Int) = q := ⟨_, rfl⟩
      have HTT : Aside0 (scrAt C.l4 C.a6 L m = QDc.items t.f0 ow C.a6) := ⟨by unfold scrAt; rw [ht, how]⟩
      have HOE := Aside0.mk how
      have HX := Aside0.mk (And.intro hcell (And.intro l0 (And.intro g0 hsh)))
      have hw : wrap64 ((m : Int) + 1) = (m : Int) + 1 := by unfold wrap64; omega
      clear hcell l0 g0 l1 g1 hsh h1 ht how
      go_upto_region 10 with (first | ((with_reducible refine gate_ (.load 31 (.tmp 29)) rfl ?_); refine load_any rfl 31 (.tmp 29) rfl (ad.add (m * 2)) rfl #[.slice A0 t.f0.length c0, .slice A1 t.f1.length c1] _ HX.out.1 Tryd.underlying31 rfl (by kernel_rfl) ?_))
      have HEA : Aside0 ((wr.alloc (.cells #[.slice A0 t.f0.length c0, .slice A1 t.f1.length c1] 31)).heap[wr.heap.size]? = some (.cells #[.slice A0 t.f0.length c0, .slice A1 t.f1.length c1] 31 (0, 0))) := ⟨World.alloc_heap_new _ _⟩
      have HBA : Aside0 (Below wr.heap.size wr (wr.alloc (.cells #[.slice A0 t.f0.length c0, .slice A1 t.f1.length c1] 31))) := ⟨(Below.refl _ wr).alloc (Nat.le_refl _) _⟩
      generalize (wr.alloc (.cells #[.slice A0 t.f0.length c0, .slice A1 t.f1.length c1] 31)) = wa at HEA HBA ⊢
      generalize wr.heap.size = gb at HEA ⊢
      have x4 : wa.cell? ⟨w.heap.size, 4, none⟩ = some (.slice C.A4 C.l4.length C.c4) := by simp [World.cell?, (hS.out.o.below HBA.out).e0]
      go_upto_region 11 with (go_at_call 58; refine (fOwner_calls C.A4 C.c4 C.l4 m _ HF.out.1 HF.out.2 (by have := HT.out.most; have := H1.out; omega) (HC.out.below (hS.out.o.below HBA.out).b).r4).mono ?_; rintro e wo ⟨rfl, hb⟩; rw [HOE.out]; have NO := Aside0.mk hb; clear hb)
      have HBO := Aside0.mk (HBA.out.trans (NO.out.mono HBA.out.size))
      have HSO := Aside0.mk (hS.out.below HBO.out)
      have HEO := Aside0.mk (obj_below NO.out HEA.out)
      clear x4 NO HBA HEA
      obtain ⟨vs0, ho0⟩ := Kd.R_own HSO.out.r
      have HOW := Aside0.mk ho0
      clear ho0
      go_wp2_with (first | ((with_reducible refine gate_ (.load 28 (.tmp 2)) rfl ?_); refine load_blk rfl 28 (.tmp 2) rfl w.heap.size C.v 28 rfl _ HSO.out.o.e0 Tryd.underlying28 rfl (by kernel_rfl) ?_) | ((with_reducible refine gate_ (.load 31 (.tmp 10)) rfl ?_); refine load_blk rfl 31 (.tmp 10) rfl gb #[.slice A0 t.f0.length c0, .slice A1 t.f1.length c1] 31 rfl _ HEO.out Tryd.underlying31 rfl (by kernel_rfl) ?_) | (go_at_call 12; go_loud (refine (Tick_R _ _ _ _ _ _ _ _ _ _ A0 c0 t.f0 _ HX.out.2.1 (Kd.C_below HX.out.2.2.1 HBO.out) HX.out.2.2.2 (HG.out.below HSO.out.o.b)).mono ?_); rintro e wt ⟨vt, rfl, hR, hb⟩; obtain ⟨At, ct, rfl, _, _⟩ := Kd.R_reads hR; have HRT := Aside0.mk hR; have NT := Aside0.mk hb; clear hR hb) | ((with_reducible refine gate_builtin (b := .append) rfl ?_); at_builtin; go_loud (refine Kd.R_append kRow (w0 := w) w.heap.size rfl (.tmp 38) (.tmp 43) 68 34 (.slice none 0 0) 24 rfl Tryd.underlying68 info34 rfl (by decide) (by decide) _ (scr C.l4 C.a6 L m) (scrAt C.l4 C.a6 L m) [.slice At (QDc.items t.f0 ow C.a6).length ct] (fun _ => True) _ rfl rfl ⟨_, rfl, Kd.R_lower (by rw [HTT.out]; exact Kd.R_new HRT.out HOW.out) HSO.out.o.b.size⟩ (fun _ h => h) (fun _ _ => trivial) (HSO.out.below NT.out).r (HSO.out.below NT.out).o.b (HSO.out.below NT.out).o.b.size (by rw [scr_len]; have := HT.out.most; have := H1.out; omega) ?_); intro v1 w7 hR7 hB7 hg7 hat7; have HR7 := Aside0.mk (And.intro hR7 (And.intro hB7 hg7)); clear hR7 hB7 hg7 hat7))
      refine ⟨⟨m + 1, by go_num, ⟨⟨HR7.out.2.1, ?_⟩, by have := H1.out; omega, by rw [scr_snoc]; exact HR7.out.1⟩⟩, by simp [intOf]; have := H1.out; omega⟩
      exact (HR7.out.2.2.block _ (Array.getElem?_eq_some_iff.1 (HSO.out.below NT.out).o.e0).1 (Kd.R_ne (HSO.out.below NT.out).r (HSO.out.below NT.out).o.e0 (by decide))).trans (HSO.out.below NT.out).o.e0
    · have d1 : decide ((m : Int) < (L.length : Int)) = false := decide_eq_false (by omega)
      have hm : m = L.length := by have := hS.out.le; omega
      subst hm
      go_wp2_with fail
      go_ret2
      exact ⟨_, rfl, hS.out.r, hS.out.o.b⟩
end Go.Proofs.YtoliipbmcekciaaDoor.QDd

