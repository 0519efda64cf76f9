/- Lane: each call (but Reset) against the plain machine. -/
import Derived.Test.YtglekbbdbnpohaaOLn
namespace Go.Proofs.Ytglekbbdbnpohaa.QLn
open Go.RowKit Go.Proofs.YtglekbbdbnpohaaW.PrintWords Go.Proofs.YtglekbbdbnpohaaW.PrintLast Go.Proofs.YtglekbbdbnpohaaW.PrintMore
set_option linter.unusedVariables false
set_option linter.unusedSimpArgs false
theorem Claim_full (b : Nat) (s : LS) (hl0 : s.left = 0) (hc : 0 < s.credit) (w : World) (h : Ln w b s) : Calls Try.prog 15 #[.pointer (some ⟨b, 0, none⟩)] w fun e w' =>
    e = .returned (.tuple #[.agg (aTick 0 0), .int .i64 81]) ∧ Below w.heap.size w w' := by
  have d1 : decide (s.credit > 0) = true := decide_eq_true hc
  have d2 : (s.left == 0) = true := by simp [hl0]
  have HB0 := Aside0.mk ((Bd.start h).alloc (.cells (aTick 0 0) 34))
  have HW0 : Aside0 (Below w.heap.size w (w.alloc (.cells (aTick 0 0) 34))) := ⟨(Below.refl _ _).alloc (Nat.le_refl _) _⟩
  clear h hc hl0
  go_enter Try.func15, Try.ntmps15
  go_upto_region 1 with fail
  generalize w.alloc (.cells (aTick 0 0) 34) = w0 at HB0 HW0 ⊢
  go_upto_region 3 with (go_at_call 34; refine (is_calls b s _ HB0.out.ln).mono ?_; rintro e1 w1 ⟨rfl, hw1⟩; have HB1 := Aside0.mk (HB0.out.below hw1); have HW1 := Aside0.mk (HW0.out.trans (hw1.mono HW0.out.size)); clear hw1)
  have c2 : w1.cell? ⟨b, 2, none⟩ = some (.int .i64 s.left) := HB1.out.ln.cell 2 (by omega)
  have hr := (HB1.out.obj (w.heap.size, _) List.mem_cons_self).1
  go_wp2_with (first | ((with_reducible refine gate_store (t := 34) (p := 2) rfl ?_); refine store_blk rfl 34 (.tmp 2) (.tmp 16) rfl w.heap.size 0 (aTick 0 0) (aTick 0 0) 34 rfl rfl hr (by simp) (by kernel_rfl) (by kernel_rfl) ?_; intro w7 hw7 hr7; have HW7 := Aside0.mk (And.intro hw7 hr7); clear hw7 hr7))
  exact bodyPost_ret (res_ct (t := 34) rfl rfl rfl HW7.out.2 Try.underlying34 rfl (by kernel_rfl)) rfl ⟨rfl, by rw [HW7.out.1]; exact below_setCells (Nat.le_refl _) _ _ _ HW1.out⟩
/-- The lane at b, its map at mb, is the plain machine's state a. -/
def LnA (w : World) (b mb : Nat) (a : AS) (k : Nat) : Prop := ∃ s, Ln w b s ∧ s.mb = mb ∧ Rel s a k
theorem LnA.below {w w' : World} {b mb : Nat} {a : AS} {k : Nat} (h : LnA w b mb a k) (j : Below w.heap.size w w') : LnA w' b mb a k := by
  obtain ⟨s, h1, h2, h3⟩ := h
  exact ⟨s, h1.below j, h2, h3⟩
theorem LnA.mono {w : World} {b mb : Nat} {a : AS} {k k' : Nat} (h : LnA w b mb a k) (hk : k ≤ k') : LnA w b mb a k' := by
  obtain ⟨s, h1, h2, h3⟩ := h
  exact ⟨s, h1, h2, h3.mono hk⟩
theorem LnA.far {w w' : World} {b mb b' m' : Nat} {a : AS} {k : Nat} (h : LnA w b mb a k) (j : Far b' m' w w') (h1 : b ≠ b') (h2 : b ≠ m') (h3 : mb ≠ b') (h4 : mb ≠ m') : LnA w' b mb a k := by
  obtain ⟨s, hs, hm, hr⟩ := h
  exact ⟨s, hs.far j h1 h2 (by rw [hm]; exact h3) (by rw [hm]; exact h4), hm, hr⟩
theorem LnA.lt {w : World} {b mb : Nat} {a : AS} {k : Nat} (h : LnA w b mb a k) : b < w.heap.size ∧ mb < w.heap.size ∧ b ≠ mb := by
  obtain ⟨s, hs, hm, hr⟩ := h
  exact ⟨hs.lt, hm ▸ hs.map.lt, hm ▸ hs.ne⟩
theorem Rel.pos {s : LS} {a : AS} {k : Nat} (h : Rel s a k) : 0 < s.credit := by rw [h.cr]; have := h.c1; omega
theorem A_new (c : Int) (two : Bool) (st : Int) (h1 : 1 ≤ c) (h2 : c ≤ 64) (hst : U64 st) (w : World) : Calls Try.prog 10 #[.int .i64 c, .bool two, .int .u64 st] w fun e w' =>
    e = .returned (.tuple #[.pointer (some ⟨w.heap.size + 1, 0, none⟩), .int .i64 0]) ∧ Below w.heap.size w w' ∧ LnA w' (w.heap.size + 1) w.heap.size (newA c.toNat two st) 0 := by
  refine (New_calls c two st h1 h2 hst w).mono ?_
  rintro e w' ⟨sz, hp, hc, rfl, hb, hl⟩
  have hcn : ((c.toNat : Nat) : Int) = c := by omega
  refine ⟨rfl, hb, _, hl, rfl, ?_⟩
  have := rel_new c.toNat two st sz w.heap.size (by omega) (by omega) hst hp (by omega)
  rwa [hcn] at this
def claimR (a : AS) : AS × Value := if a.total < a.credit then (claimA a, .tuple #[.agg (aTick (ab a.start a.tail) a.epoch), .int .i64 0]) else (a, .tuple #[.agg (aTick 0 0), .int .i64 81])
theorem A_claim {b mb : Nat} {a : AS} {k : Nat} {w : World} (h : LnA w b mb a k) : Calls Try.prog 15 #[.pointer (some ⟨b, 0, none⟩)] w fun e w' =>
    e = .returned (claimR a).2 ∧ LnA w' b mb (claimR a).1 (k + 1) ∧ Far b mb w w' := by
  obtain ⟨s, hs, rfl, hr⟩ := h
  unfold claimR
  have hl := hr.lf
  have ht := hr.tot
  have hc := hr.c64
  by_cases hroom : a.total < a.credit
  · rw [if_pos hroom]
    refine (Claim_calls b s (by omega) (by omega) hr.pos (by rw [hr.ht]; exact ab_u64 _ _) hr.pw w hs).mono ?_
    rintro e w' ⟨rfl, h1, h2⟩
    exact ⟨by rw [hr.ht, hr.ep], ⟨_, h1, rfl, rel_claim hr hroom⟩, h2⟩
  · rw [if_neg hroom]
    refine (Claim_full b s (by omega) hr.pos w hs).mono ?_
    rintro e w' ⟨rfl, h1⟩
    exact ⟨rfl, ⟨s, hs.below h1, rfl, hr.mono (Nat.le_succ k)⟩, Far.of_below h1⟩
def layR (a : AS) (q ep n g : Int) : AS × Int := if ep = a.epoch ∧ inC a (off a.start q) = true then (layA a (off a.start q - a.ready) n g, 0) else (a, 82)
theorem A_lay {b mb : Nat} {a : AS} {k : Nat} {w : World} (h : LnA w b mb a k) (hk : k < 1000000) (q ep n g : Int) (hq : U64 q) : Calls Try.prog 16 #[.pointer (some ⟨b, 0, none⟩), .agg (aTick q ep), .agg (aSlot n g)] w fun e w' =>
    e = .returned (.int .i64 (layR a q ep n g).2) ∧ LnA w' b mb (layR a q ep n g).1 (k + 1) ∧ Far b mb w w' := by
  obtain ⟨s, hs, rfl, hr⟩ := h
  refine (Lay_calls b s q ep n g hr.pos hq hr.pw w hs).mono ?_
  rintro e w' ⟨rfl, h1, h2⟩
  unfold layR
  unfold layF at h1 ⊢
  by_cases hc : ep = a.epoch ∧ inC a (off a.start q) = true
  · obtain ⟨e1, e2, e3⟩ := claimF_some hr hk hq hc.1 hc.2
    rw [e1] at h1
    rw [if_pos hc, e1]
    exact ⟨rfl, ⟨_, h1, rfl, (rel_lay hr e2 n g).mono (Nat.le_succ k)⟩, h2⟩
  · rw [claimF_none hr hk hq hc] at h1
    rw [if_neg hc, claimF_none hr hk hq hc]
    exact ⟨rfl, ⟨_, h1, rfl, hr.mono (Nat.le_succ k)⟩, h2⟩
def readyR (a : AS) (q ep : Int) : Bool := decide (ep = a.epoch) && (decide (off a.start q = a.ready) && (match a.C with
  | c :: _ => c.laid
  | [] => false))
theorem readyF_eq {s : LS} {a : AS} {k : Nat} (h : Rel s a k) (hk : k < 1000000) {q ep : Int} (hq : U64 q) : readyF s q ep = readyR a q ep := by
  unfold readyF readyR
  by_cases hc : ep = a.epoch ∧ inC a (off a.start q) = true
  · obtain ⟨e1, e2, e3⟩ := claimF_some h hk hq hc.1 hc.2
    rw [e1, decide_eq_true hc.1, Bool.true_and]
    have hi := hc.2
    unfold inC at hi
    rw [decide_eq_true_iff] at hi
    obtain ⟨c, hg⟩ : ∃ c, a.C[off a.start q - a.ready]? = some c := ⟨_, List.getElem?_eq_getElem e2⟩
    have hrc := (h.rc _ _ hg).1
    simp only
    rw [hrc]
    clear hrc
    by_cases h0 : off a.start q = a.ready
    · rw [decide_eq_true h0, Bool.true_and]
      have hq2 : (q == s.ready) = true := by rw [e3, h.hr, h0]; simp
      rw [hq2, Bool.and_true]
      have hz : off a.start q - a.ready = 0 := by omega
      rw [hz] at hg
      clear e1 e2 e3 hi hc
      cases hC : a.C with
      | nil => rw [hC] at hg; simp at hg
      | cons c0 C =>
        rw [hC] at hg
        have hcc : c0 = c := by simpa using hg
        subst hcc
        cases hh : c0.laid <;> simp [hh]
    · rw [decide_eq_false h0, Bool.false_and]
      have hq2 : (q == s.ready) = false := by
        rw [e3, h.hr]
        have hb := h.bn.1
        cases hh : (ab a.start (a.ready + (off a.start q - a.ready)) == ab a.start a.ready) with
        | false => rfl
        | true =>
          have := ab_inj (by omega) (by omega) (beq_iff_eq.1 hh)
          omega
      rw [hq2, Bool.and_false]
  · rw [claimF_none h hk hq hc]
    simp only
    by_cases he : ep = a.epoch
    · rw [decide_eq_true he, Bool.true_and]
      by_cases h0 : off a.start q = a.ready
      · cases hC : a.C with
        | nil => simp
        | cons c C =>
          exfalso
          refine hc ⟨he, ?_⟩
          unfold inC AS.tail
          rw [decide_eq_true_iff, h0, hC]
          simp
      · rw [decide_eq_false h0, Bool.false_and]
    · rw [decide_eq_false he, Bool.false_and]
theorem A_ready {b mb : Nat} {a : AS} {k : Nat} {w : World} (h : LnA w b mb a k) (hk : k < 1000000) (q ep : Int) (hq : U64 q) : Calls Try.prog 21 #[.pointer (some ⟨b, 0, none⟩), .agg (aTick q ep)] w fun e w' =>
    e = .returned (.bool (readyR a q ep)) ∧ Below w.heap.size w w' := by
  obtain ⟨s, hs, rfl, hr⟩ := h
  rw [← readyF_eq hr hk hq]
  exact Ready_calls b s q ep hr.pos hq hr.pw w hs
def pubR (a : AS) (q ep x y : Int) : AS × Int := if ep = a.epoch ∧ inC a (off a.start q) = true then
    (match a.C[off a.start q - a.ready]? with
    | none => (a, 82)
    | some c => if c.laid = false then (a, 82) else if off a.start q ≠ a.ready then (a, 83) else (pubA a c a.C.tail x y, 0))
  else (a, 82)
theorem A_pub {b mb : Nat} {a : AS} {k : Nat} {w : World} (h : LnA w b mb a k) (hk : k < 1000000) (q ep x y : Int) (hq : U64 q) : Calls Try.prog 20 #[.pointer (some ⟨b, 0, none⟩), .agg (aTick q ep), .agg (aStamp x y)] w fun e w' =>
    e = .returned (.int .i64 (pubR a q ep x y).2) ∧ LnA w' b mb (pubR a q ep x y).1 (k + 1) ∧ Far b mb w w' := by
  obtain ⟨s, hs, rfl, hr⟩ := h
  refine (Publish_calls b s q ep x y hr.pos hq hr.pw w hs).mono ?_
  rintro e w' ⟨rfl, h1, h2⟩
  unfold pubR
  unfold pubF at h1 ⊢
  by_cases hc : ep = a.epoch ∧ inC a (off a.start q) = true
  · obtain ⟨e1, e2, e3⟩ := claimF_some hr hk hq hc.1 hc.2
    have hi := hc.2
    unfold inC at hi
    rw [decide_eq_true_iff] at hi
    obtain ⟨c, hg⟩ : ∃ c, a.C[off a.start q - a.ready]? = some c := ⟨_, List.getElem?_eq_getElem e2⟩
    have hrc := (hr.rc _ _ hg).1
    rw [e1] at h1
    rw [if_pos hc, e1, hg]
    simp only at h1 ⊢
    rw [hrc] at h1 ⊢
    clear hrc
    by_cases hl : c.laid = true
    · have hne : ¬ ((if c.laid = true then (2 : Int) else 1) ≠ 2) := by rw [hl]; decide
      rw [if_neg hne] at h1
      rw [if_neg hne, if_neg (show ¬ c.laid = false by rw [hl]; decide)]
      by_cases h0 : off a.start q = a.ready
      · have hq2 : q = s.ready := by rw [e3, hr.hr, h0]; simp
        rw [if_neg (fun h => h hq2)] at h1
        rw [if_neg (fun h => h hq2), if_neg (fun h => h h0)]
        refine ⟨rfl, ⟨_, h1, rfl, ?_⟩, h2⟩
        have hz : off a.start q - a.ready = 0 := by omega
        rw [hz] at hg ⊢
        cases hC : a.C with
        | nil => rw [hC] at hg; simp at hg
        | cons c0 C =>
          rw [hC] at hg
          have hcc : c0 = c := by simpa using hg
          subst hcc
          exact (rel_pub hr hC hl x y).mono (Nat.le_succ k)
      · have hq2 : q ≠ s.ready := by
          rw [e3, hr.hr]
          have hb := hr.bn.1
          intro hh
          have := ab_inj (by omega) (by omega) hh
          omega
        rw [if_pos hq2] at h1
        rw [if_pos hq2, if_pos h0]
        exact ⟨rfl, ⟨_, h1, rfl, hr.mono (Nat.le_succ k)⟩, h2⟩
    · have hl' : c.laid = false := by simpa using hl
      have hne : (if c.laid = true then (2 : Int) else 1) ≠ 2 := by rw [hl']; decide
      rw [if_pos hne] at h1
      rw [if_pos hne, if_pos hl']
      exact ⟨rfl, ⟨_, h1, rfl, hr.mono (Nat.le_succ k)⟩, h2⟩
  · rw [claimF_none hr hk hq hc] at h1
    rw [if_neg hc, claimF_none hr hk hq hc]
    exact ⟨rfl, ⟨_, h1, rfl, hr.mono (Nat.le_succ k)⟩, h2⟩
def firstR (a : AS) : Value := match a.P with
  | [] => .tuple #[.agg (aStamp 0 0), .agg (aTick 0 0), .bool false]
  | e :: _ => .tuple #[.agg (aStamp e.tk e.st), .agg (aTick (ab a.start a.head) a.epoch), .bool true]
theorem A_first {b mb : Nat} {a : AS} {k : Nat} {w : World} (h : LnA w b mb a k) (hk : k < 1000000) : Calls Try.prog 23 #[.pointer (some ⟨b, 0, none⟩)] w fun e w' =>
    e = .returned (firstR a) ∧ Below w.heap.size w w' := by
  obtain ⟨s, hs, rfl, hr⟩ := h
  have e : firstF s = firstR a := by
    unfold firstF firstR
    cases hP : a.P with
    | nil => rw [if_pos ((empty_iff hr hk).2 hP)]
    | cons e P => rw [if_neg (fun h => by rw [(empty_iff hr hk).1 h] at hP; cases hP), first_ent hr hP, hr.hh, hr.ep]
  rw [← e]
  exact First_calls b s hr.pos (by rw [hr.hh]; exact ab_u64 _ _) hr.pw w hs
def takeR (a : AS) : AS × Value := match a.P with
  | [] => (a, .tuple #[.agg (aSlot 0 0), .agg (aTick 0 0), .int .i64 82])
  | e :: P => (takeA a e P, .tuple #[.agg (aSlot e.n e.g), .agg (aTick (ab a.start a.head) a.epoch), .int .i64 0])
theorem A_take {b mb : Nat} {a : AS} {k : Nat} {w : World} (h : LnA w b mb a k) (hk : k < 1000000) : Calls Try.prog 17 #[.pointer (some ⟨b, 0, none⟩)] w fun e w' =>
    e = .returned (takeR a).2 ∧ LnA w' b mb (takeR a).1 (k + 1) ∧ Far b mb w w' := by
  obtain ⟨s, hs, rfl, hr⟩ := h
  have hu : U64 s.head := by rw [hr.hh]; exact ab_u64 _ _
  unfold takeR
  cases hP : a.P with
  | nil =>
    refine (Take_none b s hr.pos hu ((empty_iff hr hk).2 hP) hr.pw w hs).mono ?_
    rintro e w' ⟨rfl, h1⟩
    exact ⟨rfl, ⟨s, hs.below h1, rfl, hr.mono (Nat.le_succ k)⟩, Far.of_below h1⟩
  | cons e P =>
    refine (Take_calls b s hr.pos hu (fun h => by rw [(empty_iff hr hk).1 h] at hP; cases hP) hr.pw (by have := hr.bn.2.2; omega) w hs).mono ?_
    rintro e' w' ⟨rfl, h1, h2⟩
    exact ⟨by rw [first_ent hr hP, hr.hh, hr.ep], ⟨_, h1, rfl, rel_take hr hk hP⟩, h2⟩
def retR (a : AS) (q ep : Int) : AS × Value := if ep ≠ a.epoch then (a, .tuple #[.agg (aSlot 0 0), .bool false, .int .i64 0]) else
  match findA a.A (off a.start q) with
  | none => (a, .tuple #[.agg (aSlot 0 0), .bool false, .int .i64 82])
  | some p => if p.held = true then (a, .tuple #[.agg (aSlot 0 0), .bool false, .int .i64 82]) else
    if a.two = true then (ret2A a (off a.start q), .tuple #[.agg (aSlot p.n p.g), .bool true, .int .i64 0]) else (ret1A a (off a.start q) p, .tuple #[.agg (aSlot 0 0), .bool false, .int .i64 0])
theorem A_ret {b mb : Nat} {a : AS} {k : Nat} {w : World} (h : LnA w b mb a k) (hk : k < 1000000) (q ep : Int) (hq : U64 q) : Calls Try.prog 19 #[.pointer (some ⟨b, 0, none⟩), .agg (aTick q ep)] w fun e w' =>
    e = .returned (retR a q ep).2 ∧ LnA w' b mb (retR a q ep).1 (k + 1) ∧ Far b mb w w' := by
  obtain ⟨s, hs, rfl, hr⟩ := h
  unfold retR
  by_cases he : ep = a.epoch
  · rw [if_neg (fun h => h he)]
    have he' : ep = s.epoch := he.trans hr.ep.symm
    have hlk := look_A hr hk hq
    cases hf : findA a.A (off a.start q) with
    | none =>
      rw [hf] at hlk
      refine (Retire_bad b s q ep hr.pos hq he' ⟨0, 0, false⟩ false (by rw [hlk]; rfl) (by rw [hlk]; rfl) (Or.inl rfl) w hs).mono ?_
      rintro e w' ⟨rfl, h1⟩
      exact ⟨rfl, ⟨s, hs.below h1, rfl, hr.mono (Nat.le_succ k)⟩, Far.of_below h1⟩
    | some p =>
      rw [hf] at hlk
      simp only
      by_cases hh : p.held = true
      · rw [if_pos hh]
        refine (Retire_bad b s q ep hr.pos hq he' p true (by rw [hlk]; rfl) (by rw [hlk]; rfl) (Or.inr hh) w hs).mono ?_
        rintro e w' ⟨rfl, h1⟩
        exact ⟨rfl, ⟨s, hs.below h1, rfl, hr.mono (Nat.le_succ k)⟩, Far.of_below h1⟩
      · rw [if_neg hh]
        have hh' : p.held = false := by simpa using hh
        by_cases ht : a.two = true
        · rw [if_pos ht]
          have hm := find_mem hf
          have hpos : 0 < a.A.length := List.length_pos_of_mem hm
          have hlf := hr.lf
          have htot := hr.tot
          have h64 := hr.c64
          refine (Retire_two b s q ep hr.pos hq he' p hlk hh' (hr.tw.trans ht) (by omega) (by unfold AS.total at hlf; omega) w hs).mono ?_
          rintro e w' ⟨rfl, h1, h2⟩
          exact ⟨rfl, ⟨_, h1, rfl, (rel_ret2 hr hk hq hf).mono (Nat.le_succ k)⟩, h2⟩
        · rw [if_neg ht]
          refine (Retire_one b s q ep hr.pos hq he' p hlk hh' (by rw [hr.tw]; simpa using ht) (by have := hr.bn.2.2; omega) w hs).mono ?_
          rintro e w' ⟨rfl, h1, h2⟩
          exact ⟨rfl, ⟨_, h1, rfl, rel_ret1 hr hk hq hf⟩, h2⟩
  · rw [if_pos he]
    refine (Retire_old b s q ep hr.pos hq (fun h => he (h.trans hr.ep)) w hs).mono ?_
    rintro e w' ⟨rfl, h1⟩
    exact ⟨rfl, ⟨s, hs.below h1, rfl, hr.mono (Nat.le_succ k)⟩, Far.of_below h1⟩
def heldN (a : AS) (hb : Bool) : Nat := (a.A.filter (fun x => x.2.held == hb)).length
def stateR (a : AS) : Array Value := aSt ((a.credit : Int) - (a.total : Int)) a.C.length a.P.length (heldN a false) (heldN a true) a.epoch
theorem A_state {b mb : Nat} {a : AS} {k : Nat} {w : World} (h : LnA w b mb a k) (hk : k < 1000000) : Calls Try.prog 13 #[.pointer (some ⟨b, 0, none⟩)] w fun e w' =>
    e = .returned (.agg (stateR a)) ∧ Below w.heap.size w w' := by
  obtain ⟨s, hs, rfl, hr⟩ := h
  have hlen : (a.A.map (fun x => (ab a.start x.1, x.2))).length < 1000000 := by
    rw [List.length_map]; have := hr.tot; have := hr.c64; unfold AS.total at *; omega
  refine (State_calls b s _ hr.mp hlen hr.pos w hs).mono ?_
  rintro e w' ⟨rfl, h1⟩
  refine ⟨?_, h1⟩
  have hb := hr.bn.1
  have hrt : a.head ≤ a.ready := by unfold AS.ready; omega
  have htt : a.ready ≤ a.tail := by unfold AS.tail; omega
  have e1 : claimedN s = (a.C.length : Int) := by
    unfold claimedN
    rw [hr.ht, hr.hr, wsub _ _ _ htt (by omega), show a.tail - a.ready = a.C.length by unfold AS.tail; omega, IntKind.wrap_i64]
    have := hr.tot; have := hr.c64; unfold AS.total at *; omega
  have e2 : pubN s = (a.P.length : Int) := by
    unfold pubN
    rw [hr.hh, hr.hr, wsub _ _ _ hrt (by omega), show a.ready - a.head = a.P.length by unfold AS.ready; omega, IntKind.wrap_i64]
    have := hr.tot; have := hr.c64; unfold AS.total at *; omega
  have e3 : ∀ hb, cnt (a.A.map (fun x => (ab a.start x.1, x.2))) hb = heldN a hb := fun hb => by
    unfold cnt heldN
    rw [List.filter_map, List.length_map]; rfl
  unfold stateA stateR
  rw [e1, e2, e3, e3, hr.lf, hr.ep]
end Go.Proofs.Ytglekbbdbnpohaa.QLn
