/- Lane: claim. -/
import Derived.Test.YtglekbbdbnpohaaBLn
namespace Go.Proofs.Ytglekbbdbnpohaa.QLn
open Go.RowKit Go.Proofs.YtglekbbdbnpohaaW.PrintWords Go.Proofs.YtglekbbdbnpohaaW.PrintLast Go.Proofs.YtglekbbdbnpohaaW.PrintMore
set_option linter.unusedVariables false
set_option linter.unusedSimpArgs false
def pl (s : LS) (x : Int) : Nat := (x % s.size).toNat
def within (s : LS) (q : Int) : Bool := decide ((IntKind.u64.wrap (q - s.ready)) < (IntKind.u64.wrap (s.tail - s.ready)))
def claimF (s : LS) (q ep : Int) : Option Nat :=
  if ep = s.epoch ∧ within s q = true ∧ ((s.ring (pl s q)).is = 1 ∨ (s.ring (pl s q)).is = 2) then some (pl s q) else none
theorem within_calls (s : LS) (q : Int) (w : World) : Calls Try.prog 45 #[.int .u64 s.ready, .int .u64 q, .int .u64 s.tail] w fun e w' => e = .returned (.bool (within s q)) ∧ ∃ nd, w' = w.drewN nd :=
  (order_Within.calls s.ready q s.tail _ w rfl).mono fun e w' h => ⟨h.1, h.2.out⟩
set_option maxHeartbeats 2000000 in
theorem claim_calls (b : Nat) (s : LS) (q ep : Int) (hq : U64 q) (hp : Pw s.size) (w : World) (h : Ln w b s) : Calls Try.prog 36 #[.pointer (some ⟨b, 0, none⟩), .agg #[.int .u64 q, .int .u64 ep]] w fun e w' =>
    e = .returned (.pointer ((claimF s q ep).map (fun i => ⟨b, 4 + i * 5, none⟩))) ∧ Below w.heap.size w w' := by
  have HL : Aside0 (Ln (w.alloc (.cells #[.int .u64 q, .int .u64 ep] 34)) b s) := ⟨h.below ((Below.refl _ _).alloc (Nat.le_refl _) _)⟩
  have HB0 : Aside0 (Below w.heap.size w (w.alloc (.cells #[.int .u64 q, .int .u64 ep] 34))) := ⟨(Below.refl _ _).alloc (Nat.le_refl _) _⟩
  have t0 : (w.alloc (.cells #[.int .u64 q, .int .u64 ep] 34)).cell? ⟨w.heap.size, 0, none⟩ = some (.int .u64 q) := cell_new _ _ _ _
  have t1 : (w.alloc (.cells #[.int .u64 q, .int .u64 ep] 34)).cell? ⟨w.heap.size, 1, none⟩ = some (.int .u64 ep) := cell_new _ _ _ _
  have HX := Aside0.mk hq
  have HP := Aside0.mk hp
  have c9 : (w.alloc (.cells #[.int .u64 q, .int .u64 ep] 34)).cell? ⟨b, 328, none⟩ = some (.int .u64 s.epoch) := HL.out.cell 328 (by omega)
  have c7 : (w.alloc (.cells #[.int .u64 q, .int .u64 ep] 34)).cell? ⟨b, 326, none⟩ = some (.int .u64 s.ready) := HL.out.cell 326 (by omega)
  have c8 : (w.alloc (.cells #[.int .u64 q, .int .u64 ep] 34)).cell? ⟨b, 327, none⟩ = some (.int .u64 s.tail) := HL.out.cell 327 (by omega)
  clear h hq hp
  go_enter Try.func36, Try.ntmps36
  go_upto_region 1 with fail
  generalize w.alloc (.cells #[.int .u64 q, .int .u64 ep] 34) = w1 at HL HB0 t0 t1 c9 c7 c8 ⊢
  by_cases h1 : ep = s.epoch
  · have d1 : (ep != s.epoch) = false := by simp [h1]
    have H1 := Aside0.mk h1
    clear h1
    obtain ⟨x, hx⟩ : ∃ x, within s q = x := ⟨_, rfl⟩
    have HQ := Aside0.mk hx
    have HC : Aside0 (∀ w, Calls Try.prog 45 #[.int .u64 s.ready, .int .u64 q, .int .u64 s.tail] w fun e w' => e = .returned (.bool x) ∧ ∃ nd, w' = w.drewN nd) := ⟨fun w => by rw [← hx]; exact within_calls s q w⟩
    clear hx
    cases x with
    | false =>
      have HR : Aside0 (claimF s q ep = none) := ⟨by unfold claimF; rw [if_neg (by intro h; rw [HQ.out] at h; exact absurd h.2.1 (by decide))]⟩
      go_quiet (first | (go_at_call 45; refine (HC.out _).mono ?_; rintro e w' ⟨rfl, ⟨nd, rfl⟩⟩; (try first | exact ⟨rfl, _, World.drewN_drewN _ _ _⟩ | exact ⟨rfl, _, Eq.trans (World.drewN_drewN _ _ _) (congrArg (World.drewN _) (Nat.add_assoc _ _ _))⟩)))
      have HB1 : Aside0 (Below w.heap.size w (w1.drewN nq)) := ⟨pw_below_drewN HB0.out nq⟩
      go_wp2
      go_ret
      exact ⟨by rw [HR.out]; rfl, HB1.out⟩
    | true =>
      obtain ⟨i, hi⟩ : ∃ i, (s.ring (pl s q)).is = i := ⟨_, rfl⟩
      have HI := Aside0.mk hi
      have HF : Aside0 (claimF s q ep = if i = 1 ∨ i = 2 then some (pl s q) else none) := ⟨by
        unfold claimF
        rw [← hi]
        by_cases h2 : (s.ring (pl s q)).is = 1 ∨ (s.ring (pl s q)).is = 2
        · rw [if_pos ⟨H1.out, HQ.out, h2⟩, if_pos h2]
        · rw [if_neg (fun h => h2 h.2.2), if_neg h2]⟩
      clear hi
      go_quiet (first | (go_at_call 45; refine (HC.out _).mono ?_; rintro e w' ⟨rfl, ⟨nd, rfl⟩⟩; (try first | exact ⟨rfl, _, World.drewN_drewN _ _ _⟩ | exact ⟨rfl, _, Eq.trans (World.drewN_drewN _ _ _) (congrArg (World.drewN _) (Nat.add_assoc _ _ _))⟩)))
      have HB1 : Aside0 (Below w.heap.size w (w1.drewN nq)) := ⟨pw_below_drewN HB0.out nq⟩
      have HL1 : Aside0 (Ln (w1.drewN nq) b s) := ⟨HL.out.below (pw_below_drewN (Below.refl _ _) nq)⟩
      have t2 : (w1.drewN nq).cell? ⟨w.heap.size, 0, none⟩ = some (.int .u64 q) := t0
      clear t0 t1 c9 c7 c8 HL HB0
      generalize w1.drewN nq = w2 at HB1 HL1 t2 ⊢
      go_upto_region 4 with (go_at_call 35; refine (at_calls b s q HX.out HP.out _ HL1.out).mono ?_; rintro e1 w3 ⟨rfl, hw3⟩)
      have HB2 : Aside0 (Below w.heap.size w w3) := ⟨HB1.out.trans (hw3.mono HB1.out.size)⟩
      have HL2 : Aside0 (Ln w3 b s) := ⟨HL1.out.below hw3⟩
      have hz : pl s q < 64 := by
        have hb := HP.out.bds
        have i0 := Int.emod_nonneg q (show s.size ≠ 0 by omega)
        have i1 := Int.emod_lt_of_pos q (show 0 < s.size by omega)
        unfold pl; omega
      have e0 : w3.cell? ⟨b, 4 + (q % s.size).toNat * 5, none⟩ = some (.int .i64 i) := by
        have := HL2.out.ent (pl s q) hz 0 (by omega)
        rw [show (s.ring (pl s q)).at 0 = .int .i64 (s.ring (pl s q)).is from rfl, HI.out] at this
        exact this
      clear hw3 t2 hz
      by_cases h1 : i = 1
      · have HR : Aside0 (claimF s q ep = some (pl s q)) := ⟨by rw [HF.out, if_pos (Or.inl h1)]⟩
        subst h1
        go_wp2
        go_ret
        exact ⟨by rw [HR.out]; rfl, HB2.out⟩
      · by_cases h2 : i = 2
        · have HR : Aside0 (claimF s q ep = some (pl s q)) := ⟨by rw [HF.out, if_pos (Or.inr h2)]⟩
          subst h2
          clear h1
          go_wp2
          go_ret
          exact ⟨by rw [HR.out]; rfl, HB2.out⟩
        · have HR : Aside0 (claimF s q ep = none) := ⟨by rw [HF.out, if_neg (by omega)]⟩
          have d2 : (i == 1) = false := by simp [h1]
          have d3 : (i == 2) = false := by simp [h2]
          clear h1 h2
          go_wp2
          go_ret
          exact ⟨by rw [HR.out]; rfl, HB2.out⟩
  · have d1 : (ep != s.epoch) = true := by simp [h1]
    have HR : Aside0 (claimF s q ep = none) := ⟨by unfold claimF; rw [if_neg (fun h => h1 h.1)]⟩
    clear h1
    go_quiet (fail)
    have HB1 : Aside0 (Below w.heap.size w (w1.drewN nq)) := ⟨pw_below_drewN HB0.out nq⟩
    go_wp2
    go_ret
    exact ⟨by rw [HR.out]; rfl, HB1.out⟩
end Go.Proofs.Ytglekbbdbnpohaa.QLn
