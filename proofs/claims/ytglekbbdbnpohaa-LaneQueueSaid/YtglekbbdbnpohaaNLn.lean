/- Lane: the plain machine (what was taken, what is published, what is claimed), and that the lane's struct is one. No program in sight. -/
import Derived.Test.YtglekbbdbnpohaaMLn
namespace Go.Proofs.Ytglekbbdbnpohaa.QLn
open Go.RowKit
set_option linter.unusedVariables false
set_option linter.unusedSimpArgs false
structure Clm where
  laid : Bool
  n : Int
  g : Int
structure AS where
  credit : Nat
  two : Bool
  start : Int
  base : Nat
  head : Nat
  epoch : Nat
  A : List (Nat × Past)
  P : List Ent
  C : List Clm
def AS.ready (a : AS) : Nat := a.head + a.P.length
def AS.tail (a : AS) : Nat := a.ready + a.C.length
def AS.total (a : AS) : Nat := a.A.length + a.P.length + a.C.length
def ab (st : Int) (o : Nat) : Int := (st + o) % 18446744073709551616
def off (st q : Int) : Nat := ((q - st) % 18446744073709551616).toNat
theorem ab_u64 (st : Int) (o : Nat) : U64 (ab st o) := by unfold U64 ab; omega
theorem ab_off {st q : Int} (hq : U64 q) : ab st (off st q) = q := by
  unfold ab off; unfold U64 at hq; omega
theorem off_ab {st : Int} {o : Nat} (h : o < 18446744073709551616) : off st (ab st o) = o := by
  unfold ab off; omega
theorem off_lt (st q : Int) : off st q < 18446744073709551616 := by unfold off; omega
theorem ab_inj {st : Int} {o1 o2 : Nat} (h1 : o1 < 1000000) (h2 : o2 < 1000000) (h : ab st o1 = ab st o2) : o1 = o2 := by
  unfold ab at h; omega
theorem pl_ne {s : LS} {st : Int} (hp : Pw s.size) {o1 o2 : Nat} (h1 : o1 < o2) (h2 : (o2 : Int) < o1 + s.size) : pl s (ab st o1) ≠ pl s (ab st o2) := by
  unfold pl ab
  unfold Pw at hp
  rcases hp with hp | hp | hp | hp | hp | hp | hp <;> rw [hp] at h2 ⊢ <;> omega
theorem wsub (st : Int) (x y : Nat) (hx : y ≤ x) (hb : x < 1000000) : IntKind.u64.wrap (ab st x - ab st y) = ((x - y : Nat) : Int) := by
  rw [IntKind.wrap_u64]; unfold ab; omega
theorem wsucc (st : Int) (x : Nat) : IntKind.u64.wrap (ab st x + 1) = ab st (x + 1) := by
  rw [IntKind.wrap_u64]; unfold ab; omega
structure Rel (s : LS) (a : AS) (k : Nat) : Prop where
  cr : s.credit = a.credit
  c1 : 1 ≤ a.credit
  c64 : a.credit ≤ 64
  tw : s.two = a.two
  lf : s.left = (a.credit : Int) - (a.total : Int)
  tot : a.total ≤ a.credit
  pw : Pw s.size
  sz : (a.credit : Int) ≤ s.size
  st : U64 a.start
  hb : s.base = ab a.start a.base
  hh : s.head = ab a.start a.head
  hr : s.ready = ab a.start a.ready
  ht : s.tail = ab a.start a.tail
  ep : s.epoch = a.epoch
  rp : ∀ i e, a.P[i]? = some e → s.ring (pl s (ab a.start (a.head + i))) = e
  rpi : ∀ e ∈ a.P, e.is = 3
  rc : ∀ i c, a.C[i]? = some c → (s.ring (pl s (ab a.start (a.ready + i)))).is = (if c.laid = true then 2 else 1) ∧ (c.laid = true → (s.ring (pl s (ab a.start (a.ready + i)))).n = c.n ∧ (s.ring (pl s (ab a.start (a.ready + i)))).g = c.g)
  mp : Lst s.D (a.A.map (fun x => (ab a.start x.1, x.2)))
  srt : a.A.Pairwise (fun x y => x.1 < y.1)
  lo : ∀ x ∈ a.A, a.base ≤ x.1 ∧ x.1 < a.head
  bh : a.base ≤ a.head
  bn : a.tail ≤ k ∧ a.epoch ≤ k ∧ s.n ≤ k
theorem Rel.mono {s : LS} {a : AS} {k k' : Nat} (h : Rel s a k) (hk : k ≤ k') : Rel s a k' := { h with bn := ⟨Nat.le_trans h.bn.1 hk, Nat.le_trans h.bn.2.1 hk, Nat.le_trans h.bn.2.2 hk⟩ }
theorem upd_same (r : Nat → Ent) (i : Nat) (e : Ent) : upd r i e i = e := by unfold upd; rw [if_pos rfl]
theorem upd_other (r : Nat → Ent) {i j : Nat} (e : Ent) (h : j ≠ i) : upd r i e j = r j := by unfold upd; rw [if_neg h]
/-! ### New -/
def newA (c : Nat) (two : Bool) (st : Int) : AS := ⟨c, two, st, 0, 0, 0, [], [], []⟩
theorem rel_new (c : Nat) (two : Bool) (st sz : Int) (mb : Nat) (h1 : 1 ≤ c) (h2 : c ≤ 64) (hst : U64 st) (hp : Pw sz) (hc : (c : Int) ≤ sz) : Rel (newS c two sz st mb) (newA c two st) 0 where
  cr := rfl
  c1 := h1
  c64 := h2
  tw := rfl
  lf := by show (c : Int) = c - ((0 : Nat) : Int); omega
  tot := Nat.zero_le _
  pw := hp
  sz := hc
  st := hst
  hb := by show st = ab st 0; unfold ab; unfold U64 at hst; omega
  hh := by show st = ab st 0; unfold ab; unfold U64 at hst; omega
  hr := by show st = ab st 0; unfold ab; unfold U64 at hst; omega
  ht := by show st = ab st 0; unfold ab; unfold U64 at hst; omega
  ep := rfl
  rp := fun i e h => by simp [newA] at h
  rpi := fun e h => by simp [newA] at h
  rc := fun i c h => by simp [newA] at h
  mp := Lst.nil
  srt := List.Pairwise.nil
  lo := fun x h => by simp [newA] at h
  bh := Nat.le_refl _
  bn := ⟨Nat.le_refl _, Nat.le_refl _, Nat.le_refl _⟩
/-! ### Claim -/
def claimA (a : AS) : AS := { a with C := a.C ++ [(⟨false, 0, 0⟩ : Clm)] }
theorem rel_claim {s : LS} {a : AS} {k : Nat} (h : Rel s a k) (ht : a.total < a.credit) : Rel (claimS s) (claimA a) (k + 1) where
  cr := h.cr
  c1 := h.c1
  c64 := h.c64
  tw := h.tw
  lf := by
    show s.left - 1 = (a.credit : Int) - ((a.A.length + a.P.length + (a.C ++ [(⟨false, 0, 0⟩ : Clm)]).length : Nat) : Int)
    rw [h.lf, List.length_append]; unfold AS.total; simp; omega
  tot := by
    show a.A.length + a.P.length + (a.C ++ [(⟨false, 0, 0⟩ : Clm)]).length ≤ a.credit
    rw [List.length_append]; unfold AS.total at ht; simp; omega
  pw := h.pw
  sz := h.sz
  st := h.st
  hb := h.hb
  hh := h.hh
  hr := h.hr
  ht := by
    show IntKind.u64.wrap (s.tail + 1) = ab a.start (a.head + a.P.length + (a.C ++ [(⟨false, 0, 0⟩ : Clm)]).length)
    rw [h.ht, wsucc, List.length_append]; rfl
  ep := h.ep
  rp := fun i e he => by
    have hi := (List.getElem?_eq_some_iff.1 he).1
    show upd s.ring (pl s s.tail) _ (pl s (ab a.start (a.head + i))) = e
    rw [upd_other, h.rp i e he]
    rw [h.ht]
    refine pl_ne h.pw ?_ ?_
    · unfold AS.tail AS.ready; show a.head + i < _; have : i < a.P.length := hi; omega
    · have := h.sz; have := ht; unfold AS.total at this; unfold AS.tail AS.ready; have : i < a.P.length := hi; omega
  rpi := h.rpi
  rc := fun i c hc => by
    show (upd s.ring (pl s s.tail) _ (pl s (ab a.start (a.ready + i)))).is = _ ∧ (_ → (upd s.ring (pl s s.tail) _ (pl s (ab a.start (a.ready + i)))).n = _ ∧ (upd s.ring (pl s s.tail) _ (pl s (ab a.start (a.ready + i)))).g = _)
    change (a.C ++ [(⟨false, 0, 0⟩ : Clm)])[i]? = some c at hc
    by_cases hi : i < a.C.length
    · rw [List.getElem?_append_left hi] at hc
      have hne : pl s (ab a.start (a.ready + i)) ≠ pl s s.tail := by
        rw [h.ht]
        refine pl_ne h.pw ?_ ?_
        · unfold AS.tail; omega
        · have := h.sz; have := ht; unfold AS.total at this; unfold AS.tail; omega
      rw [upd_other _ _ hne]
      exact h.rc i c hc
    · have e : i = a.C.length := by
        have := (List.getElem?_eq_some_iff.1 hc).1
        rw [List.length_append] at this; simp at this; omega
      subst e
      rw [List.getElem?_append_right (Nat.le_refl _), Nat.sub_self] at hc
      cases hc
      rw [h.ht, show a.ready + a.C.length = a.tail from rfl, upd_same]
      exact ⟨rfl, fun h => absurd h (by decide)⟩
  mp := h.mp
  srt := h.srt
  lo := h.lo
  bh := h.bh
  bn := ⟨by show a.head + a.P.length + (a.C ++ [(⟨false, 0, 0⟩ : Clm)]).length ≤ k + 1; rw [List.length_append]; have := h.bn.1; unfold AS.tail AS.ready at this; simp; omega, by have := h.bn.2.1; exact Nat.le_succ_of_le this, by have := h.bn.2.2; exact Nat.le_succ_of_le this⟩
/-! ### A ticket's message -/
def inC (a : AS) (o : Nat) : Bool := decide (a.ready ≤ o ∧ o < a.tail)
theorem within_iff {s : LS} {a : AS} {k : Nat} (h : Rel s a k) (hk : k < 1000000) {q : Int} (hq : U64 q) : within s q = inC a (off a.start q) := by
  have hb := h.bn.1
  have e1 : IntKind.u64.wrap (s.tail - s.ready) = ((a.tail - a.ready : Nat) : Int) := by rw [h.ht, h.hr]; exact wsub _ _ _ (by unfold AS.tail; omega) (by omega)
  have hlt := off_lt a.start q
  have e2 : q = ab a.start (off a.start q) := (ab_off hq).symm
  unfold within inC
  rw [e1, h.hr]
  have hrt : a.ready ≤ a.tail := by unfold AS.tail; omega
  generalize off a.start q = o at *
  rw [e2, IntKind.wrap_u64, Bool.eq_iff_iff, decide_eq_true_iff, decide_eq_true_iff]
  unfold ab
  omega
theorem claimF_none {s : LS} {a : AS} {k : Nat} (h : Rel s a k) (hk : k < 1000000) {q ep : Int} (hq : U64 q) (hn : ¬ (ep = a.epoch ∧ inC a (off a.start q) = true)) : claimF s q ep = none := by
  unfold claimF
  rw [if_neg]
  rintro ⟨h1, h2, _⟩
  rw [within_iff h hk hq] at h2
  exact hn ⟨h1.trans h.ep, h2⟩
theorem claimF_some {s : LS} {a : AS} {k : Nat} (h : Rel s a k) (hk : k < 1000000) {q ep : Int} (hq : U64 q) (he : ep = a.epoch) (hi : inC a (off a.start q) = true) :
    claimF s q ep = some (pl s (ab a.start (a.ready + (off a.start q - a.ready)))) ∧ off a.start q - a.ready < a.C.length ∧ q = ab a.start (a.ready + (off a.start q - a.ready)) := by
  have h1 := hi
  unfold inC at h1
  rw [decide_eq_true_iff] at h1
  have e : a.ready + (off a.start q - a.ready) = off a.start q := by omega
  have hl : off a.start q - a.ready < a.C.length := by unfold AS.tail at h1; omega
  refine ⟨?_, hl, by rw [e, ab_off hq]⟩
  have hrc := h.rc _ _ (List.getElem?_eq_getElem hl)
  rw [e, ab_off hq] at hrc ⊢
  unfold claimF
  rw [if_pos]
  refine ⟨he.trans h.ep.symm, (within_iff h hk hq).trans hi, ?_⟩
  rw [hrc.1]
  split
  · exact Or.inr rfl
  · exact Or.inl rfl
/-! ### Lay -/
def layA (a : AS) (j : Nat) (n g : Int) : AS := { a with C := a.C.set j ⟨true, n, g⟩ }
theorem rel_lay {s : LS} {a : AS} {k : Nat} (h : Rel s a k) {j : Nat} (hj : j < a.C.length) (n g : Int) : Rel (layS s (pl s (ab a.start (a.ready + j))) n g) (layA a j n g) k :=
  have hlen : (a.C.set j ⟨true, n, g⟩).length = a.C.length := List.length_set
  { cr := h.cr, c1 := h.c1, c64 := h.c64, tw := h.tw, pw := h.pw, sz := h.sz, st := h.st, hb := h.hb, hh := h.hh, hr := h.hr, ep := h.ep, rpi := h.rpi, mp := h.mp, srt := h.srt, lo := h.lo, bh := h.bh
    lf := by
      show s.left = (a.credit : Int) - ((a.A.length + a.P.length + (a.C.set j ⟨true, n, g⟩).length : Nat) : Int)
      rw [hlen]; exact h.lf
    tot := by show a.A.length + a.P.length + (a.C.set j ⟨true, n, g⟩).length ≤ a.credit; rw [hlen]; exact h.tot
    ht := by show s.tail = ab a.start (a.head + a.P.length + (a.C.set j ⟨true, n, g⟩).length); rw [hlen]; exact h.ht
    bn := ⟨by show a.head + a.P.length + (a.C.set j ⟨true, n, g⟩).length ≤ k; rw [hlen]; exact h.bn.1, h.bn.2⟩
    rp := fun i e he => by
      have hi := (List.getElem?_eq_some_iff.1 he).1
      show upd s.ring (pl s (ab a.start (a.ready + j))) _ (pl s (ab a.start (a.head + i))) = e
      rw [upd_other, h.rp i e he]
      refine pl_ne h.pw ?_ ?_
      · unfold AS.ready; have : i < a.P.length := hi; show a.head + i < _; omega
      · have := h.sz; have := h.tot; unfold AS.total at this; unfold AS.ready; have : i < a.P.length := hi; omega
    rc := fun i c hc => by
      show (upd s.ring (pl s (ab a.start (a.ready + j))) _ (pl s (ab a.start (a.ready + i)))).is = _ ∧ (_ → (upd s.ring (pl s (ab a.start (a.ready + j))) _ (pl s (ab a.start (a.ready + i)))).n = _ ∧ (upd s.ring (pl s (ab a.start (a.ready + j))) _ (pl s (ab a.start (a.ready + i)))).g = _)
      change (a.C.set j ⟨true, n, g⟩)[i]? = some c at hc
      by_cases e : i = j
      · subst e
        rw [List.getElem?_set_self hj] at hc
        cases hc
        rw [upd_same]
        exact ⟨rfl, fun _ => ⟨rfl, rfl⟩⟩
      · rw [List.getElem?_set_ne (Ne.symm e)] at hc
        have hi := (List.getElem?_eq_some_iff.1 hc).1
        have hne : pl s (ab a.start (a.ready + i)) ≠ pl s (ab a.start (a.ready + j)) := by
          have := h.sz; have := h.tot; unfold AS.total at this
          rcases Nat.lt_or_gt_of_ne e with h1 | h1
          · exact pl_ne h.pw (by omega) (by omega)
          · exact (pl_ne h.pw (by omega) (by omega)).symm
        rw [upd_other _ _ hne]
        exact h.rc i c hc }
end Go.Proofs.Ytglekbbdbnpohaa.QLn
