/- Lane: LaneWraps: the plain law (two lanes that differ in the start alone), and SameSlots. -/
import Derived.Test.YtglekbbdbnpohaaB2Ln
namespace Go.Proofs.Ytglekbbdbnpohaa.QLn
open Go.RowKit Go.Proofs.YtglekbbdbnpohaaW.PrintWords Go.Proofs.YtglekbbdbnpohaaW.PrintLast Go.Proofs.YtglekbbdbnpohaaW.PrintMore
set_option linter.unusedVariables false
set_option linter.unusedSimpArgs false
def mv (st : Int) (a : AS) : AS := { a with start := st }
def mq (st q : Int) : Int := IntKind.u64.wrap (q + st)
theorem mq_u64 (st q : Int) : U64 (mq st q) := by unfold mq U64; rw [IntKind.wrap_u64]; omega
theorem off_mv {st q : Int} (hq : U64 q) : off st (mq st q) = off 0 q := by
  unfold off mq; unfold U64 at hq; rw [IntKind.wrap_u64]; omega
theorem ab_mv (st : Int) (o : Nat) : mq st (ab 0 o) = ab st o := by
  unfold ab mq; rw [IntKind.wrap_u64]; omega
section
variable {a : AS} (h0 : a.start = 0) (st : Int)
include h0
theorem mv_claim : ((claimR a).1.start = 0 ∧ (claimR (mv st a)).1 = mv st (claimR a).1) ∧ ((∃ q q' ep, (claimR a).2 = .tuple #[.agg (aTick q ep), .int .i64 0] ∧ (claimR (mv st a)).2 = .tuple #[.agg (aTick q' ep), .int .i64 0] ∧ mq st q = q') ∨ ((claimR a).2 = .tuple #[.agg (aTick 0 0), .int .i64 81] ∧ (claimR (mv st a)).2 = .tuple #[.agg (aTick 0 0), .int .i64 81])) := by
  unfold claimR
  rw [show (mv st a).total = a.total from rfl, show (mv st a).credit = a.credit from rfl]
  by_cases hc : a.total < a.credit
  · rw [if_pos hc, if_pos hc]
    exact ⟨⟨h0, rfl⟩, Or.inl ⟨_, _, _, rfl, rfl, by rw [h0]; exact ab_mv _ _⟩⟩
  · rw [if_neg hc, if_neg hc]
    exact ⟨⟨h0, rfl⟩, Or.inr ⟨rfl, rfl⟩⟩
theorem mv_lay {q : Int} (hq : U64 q) (ep n g : Int) : (layR a q ep n g).1.start = 0 ∧ (layR (mv st a) (mq st q) ep n g).1 = mv st (layR a q ep n g).1 ∧ (layR (mv st a) (mq st q) ep n g).2 = (layR a q ep n g).2 := by
  unfold layR
  rw [show (mv st a).epoch = a.epoch from rfl, show (mv st a).start = st from rfl, off_mv hq, h0]
  rw [show inC (mv st a) (off 0 q) = inC a (off 0 q) from rfl]
  by_cases hc : ep = a.epoch ∧ inC a (off 0 q) = true
  · rw [if_pos hc, if_pos hc]; exact ⟨h0, rfl, rfl⟩
  · rw [if_neg hc, if_neg hc]; exact ⟨h0, rfl, rfl⟩
theorem mv_ready {q : Int} (hq : U64 q) (ep : Int) : readyR (mv st a) (mq st q) ep = readyR a q ep := by
  unfold readyR
  rw [show (mv st a).epoch = a.epoch from rfl, show (mv st a).start = st from rfl, off_mv hq, h0]
  rfl
theorem mv_pub {q : Int} (hq : U64 q) (ep x y : Int) : (pubR a q ep x y).1.start = 0 ∧ (pubR (mv st a) (mq st q) ep x y).1 = mv st (pubR a q ep x y).1 ∧ (pubR (mv st a) (mq st q) ep x y).2 = (pubR a q ep x y).2 := by
  unfold pubR
  rw [show (mv st a).epoch = a.epoch from rfl, show (mv st a).start = st from rfl, off_mv hq, h0]
  rw [show inC (mv st a) (off 0 q) = inC a (off 0 q) from rfl, show (mv st a).C = a.C from rfl, show (mv st a).ready = a.ready from rfl]
  by_cases hc : ep = a.epoch ∧ inC a (off 0 q) = true
  · rw [if_pos hc, if_pos hc]
    cases hg : a.C[off 0 q - a.ready]? with
    | none => exact ⟨h0, rfl, rfl⟩
    | some c =>
      simp only
      by_cases hl : c.laid = false
      · rw [if_pos hl, if_pos hl]; exact ⟨h0, rfl, rfl⟩
      · rw [if_neg hl, if_neg hl]
        by_cases hr : off 0 q ≠ a.ready
        · rw [if_pos hr, if_pos hr]; exact ⟨h0, rfl, rfl⟩
        · rw [if_neg hr, if_neg hr]; exact ⟨h0, rfl, rfl⟩
  · rw [if_neg hc, if_neg hc]; exact ⟨h0, rfl, rfl⟩
omit h0 in
theorem mv_first : ∃ x y q q' ep bb, firstR a = .tuple #[.agg (aStamp x y), .agg (aTick q ep), .bool bb] ∧ firstR (mv st a) = .tuple #[.agg (aStamp x y), .agg (aTick q' ep), .bool bb] := by
  unfold firstR
  rw [show (mv st a).P = a.P from rfl]
  cases a.P with
  | nil => exact ⟨_, _, _, _, _, _, rfl, rfl⟩
  | cons e P => exact ⟨_, _, _, _, _, _, rfl, rfl⟩
theorem mv_take : ((takeR a).1.start = 0 ∧ (takeR (mv st a)).1 = mv st (takeR a).1) ∧ ((∃ n g q q' ep, (takeR a).2 = .tuple #[.agg (aSlot n g), .agg (aTick q ep), .int .i64 0] ∧ (takeR (mv st a)).2 = .tuple #[.agg (aSlot n g), .agg (aTick q' ep), .int .i64 0] ∧ mq st q = q') ∨ ((takeR a).2 = .tuple #[.agg (aSlot 0 0), .agg (aTick 0 0), .int .i64 82] ∧ (takeR (mv st a)).2 = .tuple #[.agg (aSlot 0 0), .agg (aTick 0 0), .int .i64 82])) := by
  unfold takeR
  rw [show (mv st a).P = a.P from rfl]
  cases a.P with
  | nil => exact ⟨⟨h0, rfl⟩, Or.inr ⟨rfl, rfl⟩⟩
  | cons e P => exact ⟨⟨h0, rfl⟩, Or.inl ⟨_, _, _, _, _, rfl, rfl, by rw [h0]; exact ab_mv _ _⟩⟩
theorem mv_ret {q : Int} (hq : U64 q) (ep : Int) : (retR a q ep).1.start = 0 ∧ (retR (mv st a) (mq st q) ep).1 = mv st (retR a q ep).1 ∧ (retR (mv st a) (mq st q) ep).2 = (retR a q ep).2 := by
  unfold retR
  rw [show (mv st a).epoch = a.epoch from rfl, show (mv st a).start = st from rfl, off_mv hq, h0, show (mv st a).A = a.A from rfl, show (mv st a).two = a.two from rfl]
  by_cases hc : ep ≠ a.epoch
  · rw [if_pos hc, if_pos hc]; exact ⟨h0, rfl, rfl⟩
  · rw [if_neg hc, if_neg hc]
    cases findA a.A (off 0 q) with
    | none => exact ⟨h0, rfl, rfl⟩
    | some p =>
      simp only
      by_cases hh : p.held = true
      · rw [if_pos hh, if_pos hh]; exact ⟨h0, rfl, rfl⟩
      · rw [if_neg hh, if_neg hh]
        by_cases ht : a.two = true
        · rw [if_pos ht, if_pos ht]; exact ⟨h0, rfl, rfl⟩
        · rw [if_neg ht, if_neg ht]; exact ⟨h0, rfl, rfl⟩
theorem mv_reset : (resetR a).1.start = 0 ∧ (resetR (mv st a)).1 = mv st (resetR a).1 ∧ (resetR (mv st a)).2 = (resetR a).2 ∧ resetL (mv st a) = resetL a := by
  unfold resetR resetL
  rw [show (mv st a).C = a.C from rfl]
  by_cases hc : a.C = []
  · rw [if_pos hc, if_pos hc, if_pos hc, if_pos hc]; exact ⟨h0, rfl, rfl, rfl⟩
  · rw [if_neg hc, if_neg hc, if_neg hc, if_neg hc]; exact ⟨h0, rfl, rfl, rfl⟩
end
/-! ### SameSlots -/
theorem SlotsAt.get {w : World} {A : Option Addr} {l : List (Int × Int)} (h : SlotsAt w A l) {i : Nat} (hi : i < l.length) : ∃ ad n g, A = some ad ∧ w.cell? (ad.add (i * 2)) = some (.int .i64 n) ∧ w.cell? ⟨(ad.add (i * 2)).block, (ad.add (i * 2)).off + 1, none⟩ = some (.int .u64 g) ∧ l[i]? = some (n, g) := by
  obtain ⟨ad, e, h1, h2⟩ := h i l[i] (List.getElem?_eq_getElem hi)
  exact ⟨ad, _, _, e, h1, by rw [← add_field _ _ 1 (by omega)]; exact h2, List.getElem?_eq_getElem hi⟩
def SlI (W : World) (j : Nat) (wr : World) : Prop := ∃ nd, wr = W.drewN nd
set_option maxRecDepth 100000 in
set_option maxHeartbeats 4000000 in
theorem SameSlots_calls (A B : Option Addr) (c d : Nat) (l : List (Int × Int)) (W : World) (hA : SlotsAt W A l) (hB : SlotsAt W B l) (hl : l.length < 1000000) (hc : l.length ≤ c) (hd : l.length ≤ d) : Calls Try.prog 33 #[.slice A l.length c, .slice B l.length d] W fun e w' => e = .returned (.bool true) ∧ ∃ nd, w' = W.drewN nd := by
  have HA := Aside0.mk hA
  have HB := Aside0.mk hB
  have HL := Aside0.mk hl
  clear hA hB hl
  go_enter Try.func33, Try.ntmps33
  go_wp2
  go_loopw [5] (fun i wr => ∃ j : Nat, j ≤ l.length ∧ i = .int .i64 (j : Int) ∧ Aside0 (SlI W j wr)) (fun i _ => l.length - (intOf i).toNat)
  case atStart => exact ⟨0, Nat.zero_le _, rfl, ⟨⟨0, rfl⟩⟩⟩
  case round =>
    obtain ⟨j, hj, rfl, HI⟩ := hrel
    obtain ⟨nd, rfl⟩ := HI.out
    clear HI
    by_cases hlt : j < l.length
    · obtain ⟨ad, n, g, rfl, p1, p2, e1⟩ := HA.out.get hlt
      obtain ⟨bd, n', g', rfl, q1, q2, e2⟩ := HB.out.get hlt
      rw [e1] at e2
      cases e2
      have d1 : decide ((j : Int) < (l.length : Int)) = true := decide_eq_true (by omega)
      have d1' : decide (j < l.length) = true := decide_eq_true hlt
      have b1 : (0 : Int) ≤ (j : Int) := by omega
      have b2 : (j : Int) < (l.length : Int) := by omega
      have hw : wrap64 ((j : Int) + 1) = (j : Int) + 1 := by have := HL.out; unfold wrap64; omega
      have HH : Aside0 (l.length - ((j : Int) + 1).toNat < l.length - ((j : Int)).toNat) := ⟨by omega⟩
      have ht : ((j : Int)).toNat = j := Int.toNat_natCast j
      go_upto_region 6 with fail
      go_quiet (fail)
      go_wp2
      go_roundw
      case rel => exact ⟨j + 1, hlt, by go_num, ⟨_, rfl⟩⟩
      case measure => first | exact HH.out | (simp only [hw]; exact HH.out)
    · have d1 : decide ((j : Int) < (l.length : Int)) = false := decide_eq_false (by omega)
      have d1' : decide (j < l.length) = false := decide_eq_false hlt
      go_wp2
      go_ret
      exact ⟨rfl, _, rfl⟩
end Go.Proofs.Ytglekbbdbnpohaa.QLn
