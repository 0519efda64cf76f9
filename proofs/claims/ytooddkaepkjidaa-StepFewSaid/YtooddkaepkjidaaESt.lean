/- Step: plain math: requests that are proper, places of micro-steps, what a micro-step makes. -/
import Derived.Test.YtooddkaepkjidaaQStx7
import Derived.Test.YtooddkaepkjidaaQStx4
import Derived.Test.YtooddkaepkjidaaDSt
namespace Go.Proofs.Ytooddkaepkjidaa.QSt
open Go.RowKit Go.Proofs.YtooddkaepkjidaaW.PrintWords Go.Proofs.YtooddkaepkjidaaW.PrintLast Go.Proofs.YtooddkaepkjidaaW.PrintMore
set_option linter.unusedVariables false
set_option linter.unusedSimpArgs false

def okReq (k a r h p : Int) : Bool :=
  if k = 1 then decide (1 ≤ r ∧ r ≤ 7 ∧ h = 0 ∧ p = 0) else if k = 2 ∨ k = 4 ∨ k = 6 ∨ k = 7 then decide (a = 0 ∧ r = 0 ∧ p = 0) else
  if k = 3 then decide (a = 0 ∧ r = 0) else if k = 5 then decide (1 ≤ r ∧ r ≤ 7 ∧ p = 0) else if k = 8 then decide (r = 0 ∧ h = 0) else
  if k = 9 then decide (a = 0 ∧ r = 0 ∧ h = 0 ∧ p = 0) else false
theorem is_ok (k a r h p : Int) : rampartref03_Is.f 9 k a r h p = some (okReq k a r h p) := by
  by_cases h1 : k = 1
  · subst h1; by_cases hb : 1 ≤ r <;> by_cases hc : r ≤ 7 <;> by_cases hh : h = 0 <;> by_cases hp : p = 0 <;> simp [rampartref03_Is.f, rampartref03_Is.j0, rampartref03_Is.j1, okReq, hb, hc, hh, hp]
  by_cases h2 : k = 2
  · subst h2; by_cases ha : a = 0 <;> by_cases hR : r = 0 <;> by_cases hp : p = 0 <;> simp [rampartref03_Is.f, rampartref03_Is.j0, rampartref03_Is.j1, okReq, ha, hR, hp]
  by_cases h3 : k = 3
  · subst h3; by_cases ha : a = 0 <;> by_cases hR : r = 0 <;> simp [rampartref03_Is.f, rampartref03_Is.j0, rampartref03_Is.j1, okReq, ha, hR]
  by_cases h4 : k = 4
  · subst h4; by_cases ha : a = 0 <;> by_cases hR : r = 0 <;> by_cases hp : p = 0 <;> simp [rampartref03_Is.f, rampartref03_Is.j0, rampartref03_Is.j1, okReq, ha, hR, hp]
  by_cases h5 : k = 5
  · subst h5; by_cases hb : 1 ≤ r <;> by_cases hc : r ≤ 7 <;> by_cases hp : p = 0 <;> simp [rampartref03_Is.f, rampartref03_Is.j0, rampartref03_Is.j1, okReq, hb, hc, hp]
  by_cases h6 : k = 6
  · subst h6; by_cases ha : a = 0 <;> by_cases hR : r = 0 <;> by_cases hp : p = 0 <;> simp [rampartref03_Is.f, rampartref03_Is.j0, rampartref03_Is.j1, okReq, ha, hR, hp]
  by_cases h7 : k = 7
  · subst h7; by_cases ha : a = 0 <;> by_cases hR : r = 0 <;> by_cases hp : p = 0 <;> simp [rampartref03_Is.f, rampartref03_Is.j0, rampartref03_Is.j1, okReq, ha, hR, hp]
  by_cases h8 : k = 8
  · subst h8; by_cases hR : r = 0 <;> by_cases hh : h = 0 <;> simp [rampartref03_Is.f, rampartref03_Is.j0, rampartref03_Is.j1, okReq, hR, hh]
  by_cases h9 : k = 9
  · subst h9; by_cases ha : a = 0 <;> by_cases hR : r = 0 <;> by_cases hh : h = 0 <;> by_cases hp : p = 0 <;> simp [rampartref03_Is.f, rampartref03_Is.j0, rampartref03_Is.j1, okReq, ha, hR, hh, hp]
  by_cases hb : 1 ≤ r <;> simp [rampartref03_Is.f, rampartref03_Is.j0, rampartref03_Is.j1, okReq, h1, h2, h3, h4, h5, h6, h7, h8, h9, hb]
theorem check_ok (k a r h p : Int) : wire_Check.f 9 k a r h p = some (if okReq k a r h p = true then 0 else 30) := by
  by_cases h1 : k = 1
  · subst h1; by_cases hb : 1 ≤ r <;> by_cases hc : r ≤ 7 <;> by_cases hh : h = 0 <;> by_cases hp : p = 0 <;> simp [wire_Check.f, wire_named.f, wire_named.j0, okReq, hb, hc, hh, hp, @eq_comm Int 0]
  by_cases h2 : k = 2
  · subst h2; by_cases ha : a = 0 <;> by_cases hR : r = 0 <;> by_cases hp : p = 0 <;> simp [wire_Check.f, wire_named.f, wire_named.j0, okReq, ha, hR, hp, @eq_comm Int 0]
  by_cases h3 : k = 3
  · subst h3; by_cases ha : a = 0 <;> by_cases hR : r = 0 <;> simp [wire_Check.f, wire_named.f, wire_named.j0, okReq, ha, hR, @eq_comm Int 0]
  by_cases h4 : k = 4
  · subst h4; by_cases ha : a = 0 <;> by_cases hR : r = 0 <;> by_cases hp : p = 0 <;> simp [wire_Check.f, wire_named.f, wire_named.j0, okReq, ha, hR, hp, @eq_comm Int 0]
  by_cases h5 : k = 5
  · subst h5; by_cases hb : 1 ≤ r <;> by_cases hc : r ≤ 7 <;> by_cases hp : p = 0 <;> simp [wire_Check.f, wire_named.f, wire_named.j0, okReq, hb, hc, hp, @eq_comm Int 0]
  by_cases h6 : k = 6
  · subst h6; by_cases ha : a = 0 <;> by_cases hR : r = 0 <;> by_cases hp : p = 0 <;> simp [wire_Check.f, wire_named.f, wire_named.j0, okReq, ha, hR, hp, @eq_comm Int 0]
  by_cases h7 : k = 7
  · subst h7; by_cases ha : a = 0 <;> by_cases hR : r = 0 <;> by_cases hp : p = 0 <;> simp [wire_Check.f, wire_named.f, wire_named.j0, okReq, ha, hR, hp, @eq_comm Int 0]
  by_cases h8 : k = 8
  · subst h8; by_cases hR : r = 0 <;> by_cases hh : h = 0 <;> simp [wire_Check.f, wire_named.f, wire_named.j0, okReq, hR, hh, @eq_comm Int 0]
  by_cases h9 : k = 9
  · subst h9; by_cases ha : a = 0 <;> by_cases hR : r = 0 <;> by_cases hh : h = 0 <;> by_cases hp : p = 0 <;> simp [wire_Check.f, wire_named.f, wire_named.j0, okReq, ha, hR, hh, hp, @eq_comm Int 0]
  by_cases hb : 1 ≤ r <;> simp [wire_Check.f, wire_named.f, wire_named.j0, okReq, h1, h2, h3, h4, h5, h6, h7, h8, h9, hb]
def steps (k : Int) : List Int := if k = 3 then [2, 3, 4] else if k = 4 then [5, 6] else if 1 ≤ k ∧ k ≤ 9 then [1] else []
theorem steps_ok (k : Int) : step_Steps.f 2 k = some (steps k) := by
  unfold step_Steps.f step_Steps.j0 steps
  repeat' split
  all_goals first | rfl | (simp_all <;> omega) | simp_all
theorem rsteps_ok (k : Int) : rampartref17_Steps.f k = some (steps k) := by
  unfold rampartref17_Steps.f steps
  repeat' split
  all_goals first | rfl | (simp_all <;> omega) | simp_all

def pl (k nx : Int) : Int := if k = 3 then (if nx = 2 then 0 else if nx = 3 then 1 else if nx = 4 then 2 else -1) else if k = 4 then (if nx = 5 then 0 else if nx = 6 then 1 else -1) else if 1 ≤ k ∧ k ≤ 9 then (if nx = 1 then 0 else -1) else -1
def placeOf (o : SOp) : Int := if o.n < 1 then -1 else if okReq o.k o.a o.r o.h o.p = true then pl o.k o.nx else -1
def leftOf (o : SOp) : Int := if placeOf o < 0 then 0 else ((steps o.k).length : Int) - placeOf o

theorem rplace_ok (o : SOp) : rampartref17_place.f 10 o.n o.k o.a o.r o.h o.p o.nx o.ch o.ln o.sq o.ep o.pl = some (placeOf o) := by
  obtain ⟨n, k, a, r, h, p, nx, ch, ln, sq, ep, pp⟩ := o
  have hi := rampartref03_Is.mono k a r h p 9
  have hi10 : rampartref03_Is.f 10 k a r h p = some (okReq k a r h p) := hi _ (is_ok k a r h p)
  unfold rampartref17_place.f placeOf
  dsimp only
  by_cases hn : n < 1
  · simp [hn, rampartref17_place.j0]
  · simp only [hn, if_false, hi10, Option.bind_some]
    cases hq : okReq k a r h p with
    | false => simp [rampartref17_place.j0]
    | true =>
      simp only [rampartref17_place.j0, rsteps_ok, Option.bind_some, steps, pl]
      by_cases h3 : k = 3
      · subst h3; by_cases c2 : nx = 2 <;> by_cases c3 : nx = 3 <;> by_cases c4 : nx = 4 <;> simp [rampartref17_place.l0, rd, wrap64, c2, c3, c4, @eq_comm Int _ nx]
      by_cases h4 : k = 4
      · subst h4; by_cases c2 : nx = 5 <;> by_cases c3 : nx = 6 <;> simp [rampartref17_place.l0, rd, wrap64, c2, c3, @eq_comm Int _ nx]
      by_cases hr : 1 ≤ k ∧ k ≤ 9
      · by_cases c1 : nx = 1 <;> simp [rampartref17_place.l0, rd, wrap64, h3, h4, hr, c1, @eq_comm Int _ nx]
      · simp [rampartref17_place.l0, rd, wrap64, h3, h4, hr]
theorem left_ok (o : SOp) : step_Left.f 10 o.n o.k o.a o.r o.h o.p o.nx o.ch o.ln o.sq o.ep o.pl = some (leftOf o) := by
  obtain ⟨n, k, a, r, h, p, nx, ch, ln, sq, ep, pp⟩ := o
  have hi := wire_Check.mono k a r h p 9
  have hi10 : wire_Check.f 10 k a r h p = some (if okReq k a r h p = true then 0 else 30) := hi _ (check_ok k a r h p)
  have hs : step_Steps.f 9 k = some (steps k) := by
    have h2 := steps_ok k
    unfold step_Steps.f step_Steps.j0 at h2 ⊢
    exact h2
  unfold step_Left.f leftOf placeOf
  dsimp only
  by_cases hn : n < 1
  · simp [hn, step_Left.j0]
  · simp only [hn, if_false, hi10, Option.bind_some]
    cases hq : okReq k a r h p with
    | false => simp [step_Left.j0]
    | true =>
      simp only [step_Left.j0, hs, Option.bind_some, steps, pl, api_MStep.f]
      by_cases h3 : k = 3
      · subst h3; by_cases c2 : nx = 2 <;> by_cases c3 : nx = 3 <;> by_cases c4 : nx = 4 <;> simp [api_MStep.l0, rd, wrap64, c2, c3, c4]
      by_cases h4 : k = 4
      · subst h4; by_cases c2 : nx = 5 <;> by_cases c3 : nx = 6 <;> simp [api_MStep.l0, rd, wrap64, c2, c3]
      by_cases hr : 1 ≤ k ∧ k ≤ 9
      · by_cases c1 : nx = 1 <;> simp [api_MStep.l0, rd, wrap64, h3, h4, hr, c1]
      · simp [api_MStep.l0, rd, wrap64, h3, h4, hr]
theorem rleft_ok (o : SOp) : rampartref17_Left.f 10 o.n o.k o.a o.r o.h o.p o.nx o.ch o.ln o.sq o.ep o.pl = some (leftOf o) := by
  unfold rampartref17_Left.f leftOf
  rw [rplace_ok]
  simp only [Option.bind_some, rsteps_ok]
  by_cases h : placeOf o < 0
  · simp [h]
  · rw [if_neg h, if_neg h]
    congr 1
    have h1 : placeOf o ≤ 3 := by unfold placeOf pl; repeat' split <;> omega
    have h2 : (steps o.k).length ≤ 3 := by
      by_cases h3 : o.k = 3 <;> by_cases h4 : o.k = 4 <;> by_cases hr : 1 ≤ o.k ∧ o.k ≤ 9 <;> simp [steps, h3, h4, hr]
    unfold wrap64
    omega
def enb (ready : Bool) (o : SOp) : Bool := decide (0 ≤ placeOf o) && (decide (o.nx ≠ 4) || ready)
theorem renb_ok (t : STold) (o : SOp) : rampartref17_Enabled.f 10 t.rep.c t.rep.a t.rep.h t.rep.p t.op.n t.op.k t.op.a t.op.r t.op.h t.op.p t.op.nx t.op.ch t.op.ln t.op.sq t.op.ep t.op.pl t.code t.ready o.n o.k o.a o.r o.h o.p o.nx o.ch o.ln o.sq o.ep o.pl = some (enb t.ready o) := by
  unfold rampartref17_Enabled.f enb
  rw [rplace_ok]
  simp only [Option.bind_some]
  by_cases h : 0 ≤ placeOf o <;> by_cases h4 : o.nx = 4 <;> simp [h, h4]
theorem left_pos (o : SOp) : 0 < leftOf o ↔ 0 ≤ placeOf o := by
  unfold leftOf placeOf
  by_cases hn : o.n < 1
  · simp [hn]
  · cases okReq o.k o.a o.r o.h o.p with
    | false => simp [hn]
    | true =>
      simp only [hn, if_false, if_true]
      unfold pl steps
      by_cases h3 : o.k = 3
      · by_cases c2 : o.nx = 2 <;> by_cases c3 : o.nx = 3 <;> by_cases c4 : o.nx = 4 <;> simp [h3, c2, c3, c4]
      by_cases h4 : o.k = 4
      · by_cases c2 : o.nx = 5 <;> by_cases c3 : o.nx = 6 <;> simp [h4, c2, c3]
      by_cases hr : 1 ≤ o.k ∧ o.k ≤ 9
      · by_cases c1 : o.nx = 1 <;> simp [h3, h4, hr, c1]
      · simp [h3, h4, hr]
theorem place_nx (o : SOp) (h : 0 ≤ placeOf o) : o.nx = 1 ∨ o.nx = 2 ∨ o.nx = 3 ∨ o.nx = 4 ∨ o.nx = 5 ∨ o.nx = 6 := by
  unfold placeOf pl at h
  by_cases hn : o.n < 1
  · simp [hn] at h
  · cases hq : okReq o.k o.a o.r o.h o.p with
    | false => simp [hn, hq] at h
    | true =>
      simp only [hn, hq, if_false, if_true] at h
      by_cases h3 : o.k = 3
      · by_cases c2 : o.nx = 2 <;> by_cases c3 : o.nx = 3 <;> by_cases c4 : o.nx = 4 <;> simp_all
      by_cases h4 : o.k = 4
      · by_cases c2 : o.nx = 5 <;> by_cases c3 : o.nx = 6 <;> simp_all
      by_cases hr : 1 ≤ o.k ∧ o.k ≤ 9
      · by_cases c1 : o.nx = 1 <;> simp_all
      · simp_all

/-- What a micro-step makes of an operation. -/
def doOp (t : STold) (o : SOp) : SOp × SRep × Bool :=
  if o.nx = 1 then ({ o with nx := 7 }, t.rep, true) else if o.nx = 2 then (foundOp o t.op t.code 3, foundRep t.code, decide (t.code ≠ 1)) else
  if o.nx = 5 then (foundOp o t.op t.code 6, foundRep t.code, decide (t.code ≠ 1)) else if o.nx = 3 then ({ o with nx := 4 }, SRep.zero, false) else
  if o.nx = 4 then ({ o with nx := 7 }, ⟨1, 0, 0, 0⟩, true) else ({ o with nx := 7 }, ⟨1, 0, 0, o.pl⟩, true)
/-- The world behind it. -/
def asked (s : WS) (o : SOp) (x y : Int) : WS :=
  if o.nx = 1 ∨ o.nx = 4 then { s with qs := s.qs ++ [o.nx], l := o, a0 := x, a1 := y } else { s with qs := s.qs ++ [o.nx], l := o }
/-- What Do answers. -/
def doR (t : STold) (o : SOp) : SOp × SRep × Bool × Int :=
  if placeOf o < 0 then (SOp.zero, SRep.zero, false, 170) else if enb t.ready o = true then ((doOp t o).1, (doOp t o).2.1, (doOp t o).2.2, 0) else (SOp.zero, SRep.zero, false, 171)
end Go.Proofs.Ytooddkaepkjidaa.QSt
