/- Decode: what Parse makes of any bytes, as a plain function. -/
import Derived.Test.YtoliipbmcekciaaDoorPDc
import Derived.Test.YtoliipbmcekciaaDoorQDcx4
namespace Go.Proofs.YtoliipbmcekciaaDoor.QDc
open Go.RowKit Go.Proofs.YtoliipbmcekciaaDoorW.PrintWords Go.Proofs.YtoliipbmcekciaaDoorW.PrintLast Go.Proofs.YtoliipbmcekciaaDoorW.PrintMore
set_option linter.unusedVariables false
set_option linter.unusedSimpArgs false

def okReq (k a r h p : Int) : Bool :=
  if k = 1 then decide (1 ≤ r ∧ r ≤ 7 ∧ h = 0 ∧ p = 0) else if k = 2 ∨ k = 4 ∨ k = 6 ∨ k = 7 then decide (a = 0 ∧ r = 0 ∧ p = 0) else
  if k = 3 then decide (a = 0 ∧ r = 0) else if k = 5 then decide (1 ≤ r ∧ r ≤ 7 ∧ p = 0) else if k = 8 then decide (r = 0 ∧ h = 0) else
  if k = 9 then decide (a = 0 ∧ r = 0 ∧ h = 0 ∧ p = 0) else false
theorem is_ok (k a r h p : Int) : rampartref03_Is.f 9 k a r h p = some (okReq k a r h p) := by
  by_cases h1 : k = 1
  · subst h1; by_cases hb : 1 ≤ r <;> by_cases hc : r ≤ 7 <;> by_cases hh : h = 0 <;> by_cases hp : p = 0 <;> simp [rampartref03_Is.f, rampartref03_Is.j0, rampartref03_Is.j1, okReq, hb, hc, hh, hp]
  by_cases h2 : k = 2
  · subst h2; by_cases ha : a = 0 <;> by_cases hR : r = 0 <;> by_cases hp : p = 0 <;> simp [rampartref03_Is.f, rampartref03_Is.j0, rampartref03_Is.j1, okReq, ha, hR, hp]
  by_cases h3 : k = 3
  · subst h3; by_cases ha : a = 0 <;> by_cases hR : r = 0 <;> simp [rampartref03_Is.f, rampartref03_Is.j0, rampartref03_Is.j1, okReq, ha, hR]
  by_cases h4 : k = 4
  · subst h4; by_cases ha : a = 0 <;> by_cases hR : r = 0 <;> by_cases hp : p = 0 <;> simp [rampartref03_Is.f, rampartref03_Is.j0, rampartref03_Is.j1, okReq, ha, hR, hp]
  by_cases h5 : k = 5
  · subst h5; by_cases hb : 1 ≤ r <;> by_cases hc : r ≤ 7 <;> by_cases hp : p = 0 <;> simp [rampartref03_Is.f, rampartref03_Is.j0, rampartref03_Is.j1, okReq, hb, hc, hp]
  by_cases h6 : k = 6
  · subst h6; by_cases ha : a = 0 <;> by_cases hR : r = 0 <;> by_cases hp : p = 0 <;> simp [rampartref03_Is.f, rampartref03_Is.j0, rampartref03_Is.j1, okReq, ha, hR, hp]
  by_cases h7 : k = 7
  · subst h7; by_cases ha : a = 0 <;> by_cases hR : r = 0 <;> by_cases hp : p = 0 <;> simp [rampartref03_Is.f, rampartref03_Is.j0, rampartref03_Is.j1, okReq, ha, hR, hp]
  by_cases h8 : k = 8
  · subst h8; by_cases hR : r = 0 <;> by_cases hh : h = 0 <;> simp [rampartref03_Is.f, rampartref03_Is.j0, rampartref03_Is.j1, okReq, hR, hh]
  by_cases h9 : k = 9
  · subst h9; by_cases ha : a = 0 <;> by_cases hR : r = 0 <;> by_cases hh : h = 0 <;> by_cases hp : p = 0 <;> simp [rampartref03_Is.f, rampartref03_Is.j0, rampartref03_Is.j1, okReq, ha, hR, hh, hp]
  by_cases hb : 1 ≤ r <;> simp [rampartref03_Is.f, rampartref03_Is.j0, rampartref03_Is.j1, okReq, h1, h2, h3, h4, h5, h6, h7, h8, h9, hb]
theorem check_ok (k a r h p : Int) : wire_Check.f 9 k a r h p = some (if okReq k a r h p = true then 0 else 30) := by
  by_cases h1 : k = 1
  · subst h1; by_cases hb : 1 ≤ r <;> by_cases hc : r ≤ 7 <;> by_cases hh : h = 0 <;> by_cases hp : p = 0 <;> simp [wire_Check.f, wire_named.f, wire_named.j0, okReq, hb, hc, hh, hp, @eq_comm Int 0]
  by_cases h2 : k = 2
  · subst h2; by_cases ha : a = 0 <;> by_cases hR : r = 0 <;> by_cases hp : p = 0 <;> simp [wire_Check.f, wire_named.f, wire_named.j0, okReq, ha, hR, hp, @eq_comm Int 0]
  by_cases h3 : k = 3
  · subst h3; by_cases ha : a = 0 <;> by_cases hR : r = 0 <;> simp [wire_Check.f, wire_named.f, wire_named.j0, okReq, ha, hR, @eq_comm Int 0]
  by_cases h4 : k = 4
  · subst h4; by_cases ha : a = 0 <;> by_cases hR : r = 0 <;> by_cases hp : p = 0 <;> simp [wire_Check.f, wire_named.f, wire_named.j0, okReq, ha, hR, hp, @eq_comm Int 0]
  by_cases h5 : k = 5
  · subst h5; by_cases hb : 1 ≤ r <;> by_cases hc : r ≤ 7 <;> by_cases hp : p = 0 <;> simp [wire_Check.f, wire_named.f, wire_named.j0, okReq, hb, hc, hp, @eq_comm Int 0]
  by_cases h6 : k = 6
  · subst h6; by_cases ha : a = 0 <;> by_cases hR : r = 0 <;> by_cases hp : p = 0 <;> simp [wire_Check.f, wire_named.f, wire_named.j0, okReq, ha, hR, hp, @eq_comm Int 0]
  by_cases h7 : k = 7
  · subst h7; by_cases ha : a = 0 <;> by_cases hR : r = 0 <;> by_cases hp : p = 0 <;> simp [wire_Check.f, wire_named.f, wire_named.j0, okReq, ha, hR, hp, @eq_comm Int 0]
  by_cases h8 : k = 8
  · subst h8; by_cases hR : r = 0 <;> by_cases hh : h = 0 <;> simp [wire_Check.f, wire_named.f, wire_named.j0, okReq, hR, hh, @eq_comm Int 0]
  by_cases h9 : k = 9
  · subst h9; by_cases ha : a = 0 <;> by_cases hR : r = 0 <;> by_cases hh : h = 0 <;> by_cases hp : p = 0 <;> simp [wire_Check.f, wire_named.f, wire_named.j0, okReq, ha, hR, hh, hp, @eq_comm Int 0]
  by_cases hb : 1 ≤ r <;> simp [wire_Check.f, wire_named.f, wire_named.j0, okReq, h1, h2, h3, h4, h5, h6, h7, h8, h9, hb]
def checkOf (k a r h p : Int) : Int := if okReq k a r h p = true then 0 else 30
theorem get_some (l : List Int) (h16 : l.length = 16) : (∃ t, wire_part_get.f 9 4 4 l = some t) ∧ ∃ t, wire_part_get.f 9 8 8 l = some t := by
  refine ⟨?_, ?_⟩
  · simp [wire_part_get.f, wire_part_get.l0, h16, wrap64]
    all_goals decide
  · simp [wire_part_get.f, wire_part_get.l0, h16, wrap64]
    all_goals decide
def get4 (l : List Int) : Int := (wire_part_get.f 9 4 4 l).getD 0
def get8 (l : List Int) : Int := (wire_part_get.f 9 8 8 l).getD 0
theorem get4_ok (l : List Int) (h16 : l.length = 16) : wire_part_get.f 9 4 4 l = some (get4 l) := by
  obtain ⟨t, ht⟩ := (get_some l h16).1
  rw [get4, ht]; rfl
theorem get8_ok (l : List Int) (h16 : l.length = 16) : wire_part_get.f 9 8 8 l = some (get8 l) := by
  obtain ⟨t, ht⟩ := (get_some l h16).2
  rw [get8, ht]; rfl
/-- What a piece is. -/
def parse1 (l : List Int) : S75 :=
  if l.length = 16 ∧ rd l 3 = 0 ∧ okReq (rd l 0) (rd l 1) (rd l 2) (get4 l % 4294967296) (get8 l) = true then ⟨⟨rd l 0, rd l 1, rd l 2, get4 l % 4294967296, get8 l⟩, true⟩ else ⟨⟨0, 0, 0, 0, 0⟩, false⟩
theorem Parse_calls (A : Option Addr) (c : Nat) (l : List Int) (w : World) (hr : Kd.C (Kd.int .u8) w A l.length l) (hc : l.length ≤ c) (hg : Glob w) :
    Calls Tryd.prog 61 #[.slice A l.length c] w fun e' w' => ∃ e, e' = .returned (.tuple #[.agg (cReq (parse1 l).f0.f0 (parse1 l).f0.f1 (parse1 l).f0.f2 (parse1 l).f0.f3 (parse1 l).f0.f4), .int .i64 e]) ∧ (e == 0) = (parse1 l).f1 ∧ Below w.heap.size w w' := by
  by_cases h16 : l.length = 16
  · obtain ⟨ad, rfl, _⟩ := Kd.at_int hr 0 (by omega) (by omega)
    by_cases h3 : rd l 3 = 0
    · rw [h16] at hr hc
      rw [h16]
      cases hk : okReq (rd l 0) (rd l 1) (rd l 2) (get4 l % 4294967296) (get8 l) with
      | true =>
        have e : parse1 l = ⟨⟨rd l 0, rd l 1, rd l 2, get4 l % 4294967296, get8 l⟩, true⟩ := by unfold parse1; rw [if_pos ⟨h16, h3, hk⟩]
        rw [e]
        refine (Parse_ok 9 ad c l w hc h16 hr hg _ _ _ rfl rfl rfl h3 _ _ (get4_ok l h16) (get8_ok l h16) (by rw [check_ok, hk]; rfl)).mono ?_
        rintro e' w' ⟨rfl, hb⟩
        exact ⟨0, rfl, rfl, hb⟩
      | false =>
        have e : parse1 l = ⟨⟨0, 0, 0, 0, 0⟩, false⟩ := by unfold parse1; rw [if_neg (fun h => by rw [hk] at h; exact absurd h.2.2 (by decide))]
        rw [e]
        refine (Parse_bad 9 ad c l w hc h16 hr hg _ _ _ rfl rfl rfl h3 _ _ (get4_ok l h16) (get8_ok l h16) 30 (by rw [check_ok, hk]; rfl) (by decide)).mono ?_
        rintro e' w' ⟨rfl, hb⟩
        exact ⟨30, rfl, rfl, hb⟩
    · have e : parse1 l = ⟨⟨0, 0, 0, 0, 0⟩, false⟩ := by unfold parse1; rw [if_neg (fun h => h3 h.2.1)]
      rw [h16] at hr hc
      rw [e, h16]
      refine (Parse_three ad c l w hr h3).mono ?_
      rintro e' w' ⟨rfl, hb⟩
      exact ⟨30, rfl, rfl, hb⟩
  · have e : parse1 l = ⟨⟨0, 0, 0, 0, 0⟩, false⟩ := by unfold parse1; rw [if_neg (fun h => h16 h.1)]
    rw [e]
    refine (Parse_long A c l.length w h16).mono ?_
    rintro e' w' ⟨rfl, hb⟩
    exact ⟨30, rfl, rfl, hb⟩
end Go.Proofs.YtoliipbmcekciaaDoor.QDc
