/- Lane: NLn, OLn, PLn joined. -/
import Derived.Test.YtglekbbdbnpohaaMLn
/- Lane: the plain machine (what was taken, what is published, what is claimed), and that the lane's struct is one. No program in sight. -/
namespace Go.Proofs.Ytglekbbdbnpohaa.QLn
open Go.RowKit
set_option linter.unusedVariables false
set_option linter.unusedSimpArgs false
structure Clm where
  laid : Bool
  n : Int
  g : Int
structure AS where
  credit : Nat
  two : Bool
  start : Int
  base : Nat
  head : Nat
  epoch : Nat
  A : List (Nat × Past)
  P : List Ent
  C : List Clm
def AS.ready (a : AS) : Nat := a.head + a.P.length
def AS.tail (a : AS) : Nat := a.ready + a.C.length
def AS.total (a : AS) : Nat := a.A.length + a.P.length + a.C.length
def ab (st : Int) (o : Nat) : Int := (st + o) % 18446744073709551616
def off (st q : Int) : Nat := ((q - st) % 18446744073709551616).toNat
theorem ab_u64 (st : Int) (o : Nat) : U64 (ab st o) := by unfold U64 ab; omega
theorem ab_off {st q : Int} (hq : U64 q) : ab st (off st q) = q := by
  unfold ab off; unfold U64 at hq; omega
theorem off_ab {st : Int} {o : Nat} (h : o < 18446744073709551616) : off st (ab st o) = o := by
  unfold ab off; omega
theorem off_lt (st q : Int) : off st q < 18446744073709551616 := by unfold off; omega
theorem ab_inj {st : Int} {o1 o2 : Nat} (h1 : o1 < 1000000) (h2 : o2 < 1000000) (h : ab st o1 = ab st o2) : o1 = o2 := by
  unfold ab at h; omega
theorem pl_ne {s : LS} {st : Int} (hp : Pw s.size) {o1 o2 : Nat} (h1 : o1 < o2) (h2 : (o2 : Int) < o1 + s.size) : pl s (ab st o1) ≠ pl s (ab st o2) := by
  unfold pl ab
  unfold Pw at hp
  rcases hp with hp | hp | hp | hp | hp | hp | hp <;> rw [hp] at h2 ⊢ <;> omega
theorem wsub (st : Int) (x y : Nat) (hx : y ≤ x) (hb : x < 1000000) : IntKind.u64.wrap (ab st x - ab st y) = ((x - y : Nat) : Int) := by
  rw [IntKind.wrap_u64]; unfold ab; omega
theorem wsucc (st : Int) (x : Nat) : IntKind.u64.wrap (ab st x + 1) = ab st (x + 1) := by
  rw [IntKind.wrap_u64]; unfold ab; omega
structure Rel (s : LS) (a : AS) (k : Nat) : Prop where
  cr : s.credit = a.credit
  c1 : 1 ≤ a.credit
  c64 : a.credit ≤ 64
  tw : s.two = a.two
  lf : s.left = (a.credit : Int) - (a.total : Int)
  tot : a.total ≤ a.credit
  pw : Pw s.size
  sz : (a.credit : Int) ≤ s.size
  st : U64 a.start
  hb : s.base = ab a.start a.base
  hh : s.head = ab a.start a.head
  hr : s.ready = ab a.start a.ready
  ht : s.tail = ab a.start a.tail
  ep : s.epoch = a.epoch
  rp : ∀ i e, a.P[i]? = some e → s.ring (pl s (ab a.start (a.head + i))) = e
  rpi : ∀ e ∈ a.P, e.is = 3
  rc : ∀ i c, a.C[i]? = some c → (s.ring (pl s (ab a.start (a.ready + i)))).is = (if c.laid = true then 2 else 1) ∧ (c.laid = true → (s.ring (pl s (ab a.start (a.ready + i)))).n = c.n ∧ (s.ring (pl s (ab a.start (a.ready + i)))).g = c.g)
  mp : Lst s.D (a.A.map (fun x => (ab a.start x.1, x.2)))
  srt : a.A.Pairwise (fun x y => x.1 < y.1)
  lo : ∀ x ∈ a.A, a.base ≤ x.1 ∧ x.1 < a.head
  bh : a.base ≤ a.head
  bn : a.tail ≤ k ∧ a.epoch ≤ k ∧ s.n ≤ k
theorem Rel.mono {s : LS} {a : AS} {k k' : Nat} (h : Rel s a k) (hk : k ≤ k') : Rel s a k' := { h with bn := ⟨Nat.le_trans h.bn.1 hk, Nat.le_trans h.bn.2.1 hk, Nat.le_trans h.bn.2.2 hk⟩ }
theorem upd_same (r : Nat → Ent) (i : Nat) (e : Ent) : upd r i e i = e := by unfold upd; rw [if_pos rfl]
theorem upd_other (r : Nat → Ent) {i j : Nat} (e : Ent) (h : j ≠ i) : upd r i e j = r j := by unfold upd; rw [if_neg h]
/-! ### New -/
def newA (c : Nat) (two : Bool) (st : Int) : AS := ⟨c, two, st, 0, 0, 0, [], [], []⟩
theorem rel_new (c : Nat) (two : Bool) (st sz : Int) (mb : Nat) (h1 : 1 ≤ c) (h2 : c ≤ 64) (hst : U64 st) (hp : Pw sz) (hc : (c : Int) ≤ sz) : Rel (newS c two sz st mb) (newA c two st) 0 where
  cr := rfl
  c1 := h1
  c64 := h2
  tw := rfl
  lf := by show (c : Int) = c - ((0 : Nat) : Int); omega
  tot := Nat.zero_le _
  pw := hp
  sz := hc
  st := hst
  hb := by show st = ab st 0; unfold ab; unfold U64 at hst; omega
  hh := by show st = ab st 0; unfold ab; unfold U64 at hst; omega
  hr := by show st = ab st 0; unfold ab; unfold U64 at hst; omega
  ht := by show st = ab st 0; unfold ab; unfold U64 at hst; omega
  ep := rfl
  rp := fun i e h => by simp [newA] at h
  rpi := fun e h => by simp [newA] at h
  rc := fun i c h => by simp [newA] at h
  mp := Lst.nil
  srt := List.Pairwise.nil
  lo := fun x h => by simp [newA] at h
  bh := Nat.le_refl _
  bn := ⟨Nat.le_refl _, Nat.le_refl _, Nat.le_refl _⟩
/-! ### Claim -/
def claimA (a : AS) : AS := { a with C := a.C ++ [(⟨false, 0, 0⟩ : Clm)] }
theorem rel_claim {s : LS} {a : AS} {k : Nat} (h : Rel s a k) (ht : a.total < a.credit) : Rel (claimS s) (claimA a) (k + 1) where
  cr := h.cr
  c1 := h.c1
  c64 := h.c64
  tw := h.tw
  lf := by
    show s.left - 1 = (a.credit : Int) - ((a.A.length + a.P.length + (a.C ++ [(⟨false, 0, 0⟩ : Clm)]).length : Nat) : Int)
    rw [h.lf, List.length_append]; unfold AS.total; simp; omega
  tot := by
    show a.A.length + a.P.length + (a.C ++ [(⟨false, 0, 0⟩ : Clm)]).length ≤ a.credit
    rw [List.length_append]; unfold AS.total at ht; simp; omega
  pw := h.pw
  sz := h.sz
  st := h.st
  hb := h.hb
  hh := h.hh
  hr := h.hr
  ht := by
    show IntKind.u64.wrap (s.tail + 1) = ab a.start (a.head + a.P.length + (a.C ++ [(⟨false, 0, 0⟩ : Clm)]).length)
    rw [h.ht, wsucc, List.length_append]; rfl
  ep := h.ep
  rp := fun i e he => by
    have hi := (List.getElem?_eq_some_iff.1 he).1
    show upd s.ring (pl s s.tail) _ (pl s (ab a.start (a.head + i))) = e
    rw [upd_other, h.rp i e he]
    rw [h.ht]
    refine pl_ne h.pw ?_ ?_
    · unfold AS.tail AS.ready; show a.head + i < _; have : i < a.P.length := hi; omega
    · have := h.sz; have := ht; unfold AS.total at this; unfold AS.tail AS.ready; have : i < a.P.length := hi; omega
  rpi := h.rpi
  rc := fun i c hc => by
    show (upd s.ring (pl s s.tail) _ (pl s (ab a.start (a.ready + i)))).is = _ ∧ (_ → (upd s.ring (pl s s.tail) _ (pl s (ab a.start (a.ready + i)))).n = _ ∧ (upd s.ring (pl s s.tail) _ (pl s (ab a.start (a.ready + i)))).g = _)
    change (a.C ++ [(⟨false, 0, 0⟩ : Clm)])[i]? = some c at hc
    by_cases hi : i < a.C.length
    · rw [List.getElem?_append_left hi] at hc
      have hne : pl s (ab a.start (a.ready + i)) ≠ pl s s.tail := by
        rw [h.ht]
        refine pl_ne h.pw ?_ ?_
        · unfold AS.tail; omega
        · have := h.sz; have := ht; unfold AS.total at this; unfold AS.tail; omega
      rw [upd_other _ _ hne]
      exact h.rc i c hc
    · have e : i = a.C.length := by
        have := (List.getElem?_eq_some_iff.1 hc).1
        rw [List.length_append] at this; simp at this; omega
      subst e
      rw [List.getElem?_append_right (Nat.le_refl _), Nat.sub_self] at hc
      cases hc
      rw [h.ht, show a.ready + a.C.length = a.tail from rfl, upd_same]
      exact ⟨rfl, fun h => absurd h (by decide)⟩
  mp := h.mp
  srt := h.srt
  lo := h.lo
  bh := h.bh
  bn := ⟨by show a.head + a.P.length + (a.C ++ [(⟨false, 0, 0⟩ : Clm)]).length ≤ k + 1; rw [List.length_append]; have := h.bn.1; unfold AS.tail AS.ready at this; simp; omega, by have := h.bn.2.1; exact Nat.le_succ_of_le this, by have := h.bn.2.2; exact Nat.le_succ_of_le this⟩
/-! ### A ticket's message -/
def inC (a : AS) (o : Nat) : Bool := decide (a.ready ≤ o ∧ o < a.tail)
theorem within_iff {s : LS} {a : AS} {k : Nat} (h : Rel s a k) (hk : k < 1000000) {q : Int} (hq : U64 q) : within s q = inC a (off a.start q) := by
  have hb := h.bn.1
  have e1 : IntKind.u64.wrap (s.tail - s.ready) = ((a.tail - a.ready : Nat) : Int) := by rw [h.ht, h.hr]; exact wsub _ _ _ (by unfold AS.tail; omega) (by omega)
  have hlt := off_lt a.start q
  have e2 : q = ab a.start (off a.start q) := (ab_off hq).symm
  unfold within inC
  rw [e1, h.hr]
  have hrt : a.ready ≤ a.tail := by unfold AS.tail; omega
  generalize off a.start q = o at *
  rw [e2, IntKind.wrap_u64, Bool.eq_iff_iff, decide_eq_true_iff, decide_eq_true_iff]
  unfold ab
  omega
theorem claimF_none {s : LS} {a : AS} {k : Nat} (h : Rel s a k) (hk : k < 1000000) {q ep : Int} (hq : U64 q) (hn : ¬ (ep = a.epoch ∧ inC a (off a.start q) = true)) : claimF s q ep = none := by
  unfold claimF
  rw [if_neg]
  rintro ⟨h1, h2, _⟩
  rw [within_iff h hk hq] at h2
  exact hn ⟨h1.trans h.ep, h2⟩
theorem claimF_some {s : LS} {a : AS} {k : Nat} (h : Rel s a k) (hk : k < 1000000) {q ep : Int} (hq : U64 q) (he : ep = a.epoch) (hi : inC a (off a.start q) = true) :
    claimF s q ep = some (pl s (ab a.start (a.ready + (off a.start q - a.ready)))) ∧ off a.start q - a.ready < a.C.length ∧ q = ab a.start (a.ready + (off a.start q - a.ready)) := by
  have h1 := hi
  unfold inC at h1
  rw [decide_eq_true_iff] at h1
  have e : a.ready + (off a.start q - a.ready) = off a.start q := by omega
  have hl : off a.start q - a.ready < a.C.length := by unfold AS.tail at h1; omega
  refine ⟨?_, hl, by rw [e, ab_off hq]⟩
  have hrc := h.rc _ _ (List.getElem?_eq_getElem hl)
  rw [e, ab_off hq] at hrc ⊢
  unfold claimF
  rw [if_pos]
  refine ⟨he.trans h.ep.symm, (within_iff h hk hq).trans hi, ?_⟩
  rw [hrc.1]
  split
  · exact Or.inr rfl
  · exact Or.inl rfl
/-! ### Lay -/
def layA (a : AS) (j : Nat) (n g : Int) : AS := { a with C := a.C.set j ⟨true, n, g⟩ }
theorem rel_lay {s : LS} {a : AS} {k : Nat} (h : Rel s a k) {j : Nat} (hj : j < a.C.length) (n g : Int) : Rel (layS s (pl s (ab a.start (a.ready + j))) n g) (layA a j n g) k :=
  have hlen : (a.C.set j ⟨true, n, g⟩).length = a.C.length := List.length_set
  { cr := h.cr, c1 := h.c1, c64 := h.c64, tw := h.tw, pw := h.pw, sz := h.sz, st := h.st, hb := h.hb, hh := h.hh, hr := h.hr, ep := h.ep, rpi := h.rpi, mp := h.mp, srt := h.srt, lo := h.lo, bh := h.bh
    lf := by
      show s.left = (a.credit : Int) - ((a.A.length + a.P.length + (a.C.set j ⟨true, n, g⟩).length : Nat) : Int)
      rw [hlen]; exact h.lf
    tot := by show a.A.length + a.P.length + (a.C.set j ⟨true, n, g⟩).length ≤ a.credit; rw [hlen]; exact h.tot
    ht := by show s.tail = ab a.start (a.head + a.P.length + (a.C.set j ⟨true, n, g⟩).length); rw [hlen]; exact h.ht
    bn := ⟨by show a.head + a.P.length + (a.C.set j ⟨true, n, g⟩).length ≤ k; rw [hlen]; exact h.bn.1, h.bn.2⟩
    rp := fun i e he => by
      have hi := (List.getElem?_eq_some_iff.1 he).1
      show upd s.ring (pl s (ab a.start (a.ready + j))) _ (pl s (ab a.start (a.head + i))) = e
      rw [upd_other, h.rp i e he]
      refine pl_ne h.pw ?_ ?_
      · unfold AS.ready; have : i < a.P.length := hi; show a.head + i < _; omega
      · have := h.sz; have := h.tot; unfold AS.total at this; unfold AS.ready; have : i < a.P.length := hi; omega
    rc := fun i c hc => by
      show (upd s.ring (pl s (ab a.start (a.ready + j))) _ (pl s (ab a.start (a.ready + i)))).is = _ ∧ (_ → (upd s.ring (pl s (ab a.start (a.ready + j))) _ (pl s (ab a.start (a.ready + i)))).n = _ ∧ (upd s.ring (pl s (ab a.start (a.ready + j))) _ (pl s (ab a.start (a.ready + i)))).g = _)
      change (a.C.set j ⟨true, n, g⟩)[i]? = some c at hc
      by_cases e : i = j
      · subst e
        rw [List.getElem?_set_self hj] at hc
        cases hc
        rw [upd_same]
        exact ⟨rfl, fun _ => ⟨rfl, rfl⟩⟩
      · rw [List.getElem?_set_ne (Ne.symm e)] at hc
        have hi := (List.getElem?_eq_some_iff.1 hc).1
        have hne : pl s (ab a.start (a.ready + i)) ≠ pl s (ab a.start (a.ready + j)) := by
          have := h.sz; have := h.tot; unfold AS.total at this
          rcases Nat.lt_or_gt_of_ne e with h1 | h1
          · exact pl_ne h.pw (by omega) (by omega)
          · exact (pl_ne h.pw (by omega) (by omega)).symm
        rw [upd_other _ _ hne]
        exact h.rc i c hc }
end Go.Proofs.Ytglekbbdbnpohaa.QLn
/- Lane: the plain machine: publishing, taking, retiring, letting go. No program in sight. -/
namespace Go.Proofs.Ytglekbbdbnpohaa.QLn
open Go.RowKit
set_option linter.unusedVariables false
set_option linter.unusedSimpArgs false
/-! ### Publish -/
def pubA (a : AS) (c : Clm) (C : List Clm) (x y : Int) : AS := { a with P := a.P ++ [⟨3, c.n, c.g, x, y⟩], C := C }
theorem rel_pub {s : LS} {a : AS} {k : Nat} (h : Rel s a k) {c : Clm} {C : List Clm} (hC : a.C = c :: C) (hl : c.laid = true) (x y : Int) : Rel (pubS s (pl s (ab a.start a.ready)) x y) (pubA a c C x y) k := by
  have hr0 := h.rc 0 c (by rw [hC]; rfl)
  have hlen : a.C.length = C.length + 1 := by rw [hC]; rfl
  have hready : (pubA a c C x y).ready = a.ready + 1 := by unfold AS.ready pubA; simp; omega
  have htot := h.tot
  have hsz := h.sz
  unfold AS.total at htot
  refine { cr := h.cr, c1 := h.c1, c64 := h.c64, tw := h.tw, pw := h.pw, sz := h.sz, st := h.st, hb := h.hb, hh := h.hh, ep := h.ep, mp := h.mp, srt := h.srt, lo := h.lo, bh := h.bh, lf := ?lf, tot := ?tot, hr := ?hr, ht := ?ht, bn := ?bn, rp := ?rp, rpi := ?rpi, rc := ?rc }
  case lf =>
    show s.left = (a.credit : Int) - ((a.A.length + (a.P ++ [_]).length + C.length : Nat) : Int)
    rw [h.lf]; unfold AS.total; rw [List.length_append, hlen]; simp; omega
  case tot =>
    show a.A.length + (a.P ++ [_]).length + C.length ≤ a.credit
    rw [List.length_append]; simp; omega
  case hr =>
    show IntKind.u64.wrap (s.ready + 1) = ab a.start (pubA a c C x y).ready
    rw [h.hr, wsucc, hready]
  case ht =>
    show s.tail = ab a.start ((pubA a c C x y).ready + C.length)
    rw [h.ht, hready]; unfold AS.tail; rw [hlen]; congr 1; omega
  case bn =>
    refine ⟨?_, h.bn.2⟩
    show (pubA a c C x y).ready + C.length ≤ k
    rw [hready]; have := h.bn.1; unfold AS.tail at this; omega
  case rp =>
    intro i e he
    change (a.P ++ [_])[i]? = some e at he
    show upd s.ring (pl s (ab a.start a.ready)) _ (pl s (ab a.start (a.head + i))) = e
    by_cases hi : i < a.P.length
    · rw [List.getElem?_append_left hi] at he
      rw [upd_other, h.rp i e he]
      refine pl_ne h.pw ?_ ?_
      · unfold AS.ready; omega
      · unfold AS.ready; omega
    · have e1 : i = a.P.length := by
        have := (List.getElem?_eq_some_iff.1 he).1
        rw [List.length_append] at this; simp at this; omega
      subst e1
      rw [List.getElem?_append_right (Nat.le_refl _), Nat.sub_self] at he
      rw [show a.head + a.P.length = a.ready from rfl, upd_same]
      have h2 := hr0.2 hl
      rw [Nat.add_zero] at h2
      rw [h2.1, h2.2]
      simpa using he
  case rpi =>
    intro e he
    rcases List.mem_append.1 he with h1 | h1
    · exact h.rpi e h1
    · rw [List.mem_singleton.1 h1]
  case rc =>
    intro i d hd
    change C[i]? = some d at hd
    have hd' : a.C[i + 1]? = some d := by rw [hC]; simpa using hd
    have hi := (List.getElem?_eq_some_iff.1 hd).1
    have hne : pl s (ab a.start (a.ready + 1 + i)) ≠ pl s (ab a.start a.ready) := (pl_ne h.pw (by omega) (by omega)).symm
    show (upd s.ring (pl s (ab a.start a.ready)) _ (pl s (ab a.start ((pubA a c C x y).ready + i)))).is = _ ∧ (_ → (upd s.ring (pl s (ab a.start a.ready)) _ (pl s (ab a.start ((pubA a c C x y).ready + i)))).n = _ ∧ (upd s.ring (pl s (ab a.start a.ready)) _ (pl s (ab a.start ((pubA a c C x y).ready + i)))).g = _)
    rw [hready, upd_other _ _ hne, show a.ready + 1 + i = a.ready + (i + 1) by omega]
    exact h.rc (i + 1) d hd'
/-! ### Take -/
theorem empty_iff {s : LS} {a : AS} {k : Nat} (h : Rel s a k) (hk : k < 1000000) : s.head = s.ready ↔ a.P = [] := by
  have hb := h.bn.1
  have : a.ready ≤ a.tail := by unfold AS.tail; omega
  constructor
  · intro e
    rw [h.hh, h.hr] at e
    have := ab_inj (by unfold AS.ready at *; omega) (by omega) e
    unfold AS.ready at this
    exact List.eq_nil_of_length_eq_zero (by omega)
  · intro e
    rw [h.hh, h.hr]; unfold AS.ready; rw [e]; rfl
theorem first_ent {s : LS} {a : AS} {k : Nat} (h : Rel s a k) {e : Ent} {P : List Ent} (hP : a.P = e :: P) : s.ring (pl s s.head) = e := by
  have := h.rp 0 e (by rw [hP]; rfl)
  rw [h.hh]
  exact this
def takeA (a : AS) (e : Ent) (P : List Ent) : AS := { a with head := a.head + 1, A := a.A ++ [(a.head, ⟨e.n, e.g, false⟩)], P := P }
theorem rel_take {s : LS} {a : AS} {k : Nat} (h : Rel s a k) (hk : k < 1000000) {e : Ent} {P : List Ent} (hP : a.P = e :: P) : Rel (takeS s) (takeA a e P) (k + 1) := by
  have hlen : a.P.length = P.length + 1 := by rw [hP]; rfl
  have hready : (takeA a e P).ready = a.ready := by unfold AS.ready takeA; simp only; omega
  have htot := h.tot
  have hsz := h.sz
  have he := first_ent h hP
  have hb := h.bn.1
  have hle : a.head < a.tail := by unfold AS.tail AS.ready; omega
  unfold AS.total at htot
  refine { cr := h.cr, c1 := h.c1, c64 := h.c64, tw := h.tw, pw := h.pw, sz := h.sz, st := h.st, hb := h.hb, ep := h.ep, lf := ?lf, tot := ?tot, hh := ?hh, hr := ?hr, ht := ?ht, mp := ?mp, srt := ?srt, lo := ?lo, bn := ?bn, rp := ?rp, rpi := ?rpi, rc := ?rc, bh := Nat.le_succ_of_le h.bh }
  case lf =>
    show s.left = (a.credit : Int) - (((a.A ++ [_]).length + P.length + a.C.length : Nat) : Int)
    rw [h.lf]; unfold AS.total; rw [List.length_append, hlen]; simp; omega
  case tot =>
    show (a.A ++ [_]).length + P.length + a.C.length ≤ a.credit
    rw [List.length_append]; simp; omega
  case hh =>
    show IntKind.u64.wrap (s.head + 1) = ab a.start (a.head + 1)
    rw [h.hh, wsucc]
  case hr =>
    show s.ready = ab a.start (takeA a e P).ready
    rw [hready]; exact h.hr
  case ht =>
    show s.tail = ab a.start ((takeA a e P).ready + a.C.length)
    rw [hready]; exact h.ht
  case mp =>
    show Lst (s.D.put (.int .u64 s.head) (.held ⟨(s.ring (pl s s.head)).n, (s.ring (pl s s.head)).g, false⟩)) ((a.A ++ [(a.head, (⟨e.n, e.g, false⟩ : Past))]).map (fun x : Nat × Past => (ab a.start x.1, x.2)))
    rw [he, h.hh, List.map_append]
    refine h.mp.put_new _ _ (fun x hx => ?_)
    obtain ⟨y, hy, rfl⟩ := List.mem_map.1 hx
    have := h.lo y hy
    intro hc
    have := ab_inj (by omega) (by omega) hc
    omega
  case srt =>
    show (a.A ++ [(a.head, _)]).Pairwise _
    rw [List.pairwise_append]
    refine ⟨h.srt, List.pairwise_singleton _ _, fun x hx y hy => ?_⟩
    rw [List.mem_singleton.1 hy]
    exact (h.lo x hx).2
  case lo =>
    intro x hx
    rcases List.mem_append.1 hx with h1 | h1
    · have := h.lo x h1
      exact ⟨this.1, Nat.lt_succ_of_lt this.2⟩
    · rw [List.mem_singleton.1 h1]
      exact ⟨h.bh, Nat.lt_succ_self _⟩
  case bn =>
    refine ⟨?_, Nat.le_succ_of_le h.bn.2.1, Nat.succ_le_succ h.bn.2.2⟩
    show (takeA a e P).ready + a.C.length ≤ k + 1
    rw [hready]; unfold AS.tail at hb; omega
  case rp =>
    intro i d hd
    change P[i]? = some d at hd
    have hi := (List.getElem?_eq_some_iff.1 hd).1
    show upd s.ring (pl s s.head) _ (pl s (ab a.start (a.head + 1 + i))) = d
    have hne : pl s (ab a.start (a.head + 1 + i)) ≠ pl s s.head := by rw [h.hh]; exact (pl_ne h.pw (by omega) (by omega)).symm
    rw [upd_other _ _ hne, show a.head + 1 + i = a.head + (i + 1) by omega]
    exact h.rp (i + 1) d (by rw [hP]; simpa using hd)
  case rpi =>
    intro d hd
    exact h.rpi d (by rw [hP]; exact List.mem_cons_of_mem _ hd)
  case rc =>
    intro i c hc
    have hi : i < a.C.length := (List.getElem?_eq_some_iff.1 hc).1
    have hne : pl s (ab a.start (a.ready + i)) ≠ pl s s.head := by rw [h.hh]; exact (pl_ne h.pw (by unfold AS.ready; omega) (by unfold AS.ready; omega)).symm
    show (upd s.ring (pl s s.head) _ (pl s (ab a.start ((takeA a e P).ready + i)))).is = _ ∧ (_ → (upd s.ring (pl s s.head) _ (pl s (ab a.start ((takeA a e P).ready + i)))).n = _ ∧ (upd s.ring (pl s s.head) _ (pl s (ab a.start ((takeA a e P).ready + i)))).g = _)
    rw [hready, upd_other _ _ hne]
    exact h.rc i c hc
/-! ### Retire -/
def findA (A : List (Nat × Past)) (o : Nat) : Option Past := (A.find? (fun x => x.1 == o)).map Prod.snd
theorem A_lt {s : LS} {a : AS} {k : Nat} (h : Rel s a k) (hk : k < 1000000) {x : Nat × Past} (hx : x ∈ a.A) : x.1 < 1000000 := by
  have := h.lo x hx; have := h.bn.1; unfold AS.tail AS.ready at this; omega
theorem find_congr {α : Type} (f g : α → Bool) : ∀ l : List α, (∀ x ∈ l, f x = g x) → l.find? f = l.find? g
  | [], _ => rfl
  | x :: l, h => by
    rw [List.find?_cons, List.find?_cons, h x List.mem_cons_self, find_congr f g l (fun y hy => h y (List.mem_cons_of_mem _ hy))]
theorem look_A {s : LS} {a : AS} {k : Nat} (h : Rel s a k) (hk : k < 1000000) {q : Int} (hq : U64 q) : look s.D q = findA a.A (off a.start q) := by
  rw [h.mp.look]
  unfold lookL findA
  rw [List.find?_map, Option.map_map]
  have e : a.A.find? ((fun x : Int × Past => x.1 == q) ∘ fun x => (ab a.start x.1, x.2)) = a.A.find? (fun x => x.1 == off a.start q) := by
    refine find_congr _ _ _ (fun x hx => ?_)
    have hlt := A_lt h hk hx
    show (ab a.start x.1 == q) = (x.1 == off a.start q)
    rw [Bool.eq_iff_iff, beq_iff_eq, beq_iff_eq]
    constructor
    · intro e
      rw [← e, off_ab (by omega)]
    · intro e
      rw [e, ab_off hq]
  rw [e]
  rfl
theorem find_mem {A : List (Nat × Past)} {o : Nat} {p : Past} (h : findA A o = some p) : (o, p) ∈ A := by
  unfold findA at h
  cases hf : A.find? (fun x => x.1 == o) with
  | none => rw [hf] at h; cases h
  | some x =>
    rw [hf] at h
    have h1 := List.mem_of_find?_eq_some hf
    have h2 := List.find?_some hf
    simp only [beq_iff_eq] at h2
    cases h
    rw [← h2]
    exact h1
theorem filter_len : ∀ {A : List (Nat × Past)} {o : Nat} {p : Past}, A.Pairwise (fun x y => x.1 < y.1) → (o, p) ∈ A → (A.filter (fun x => decide (x.1 ≠ o))).length + 1 = A.length
  | [], _, _, _, h => by simp at h
  | x :: A, o, p, hs, hm => by
    rw [List.pairwise_cons] at hs
    by_cases e : x.1 = o
    · rw [List.filter_cons_of_neg (by simp [e]), List.filter_eq_self.2 (fun y hy => by have := hs.1 y hy; simp; omega)]; rfl
    · rw [List.filter_cons_of_pos (by simp [e]), List.length_cons, List.length_cons]
      have hm' : (o, p) ∈ A := by
        rcases List.mem_cons.1 hm with h1 | h1
        · exact absurd (by rw [← h1]) e
        · exact h1
      rw [filter_len hs.2 hm']
def ret2A (a : AS) (o : Nat) : AS := { a with A := a.A.filter (fun x => decide (x.1 ≠ o)) }
theorem rel_ret2 {s : LS} {a : AS} {k : Nat} (h : Rel s a k) (hk : k < 1000000) {q : Int} (hq : U64 q) {p : Past} (hf : findA a.A (off a.start q) = some p) : Rel (ret2S s q) (ret2A a (off a.start q)) k := by
  have hm := find_mem hf
  have hlen := filter_len h.srt hm
  refine { cr := h.cr, c1 := h.c1, c64 := h.c64, tw := h.tw, pw := h.pw, sz := h.sz, st := h.st, hb := h.hb, hh := h.hh, hr := h.hr, ht := h.ht, ep := h.ep, rp := h.rp, rpi := h.rpi, rc := h.rc, bn := h.bn, lf := ?lf, tot := ?tot, mp := ?mp, srt := ?srt, lo := ?lo, bh := h.bh }
  case lf =>
    show s.left + 1 = (a.credit : Int) - (((a.A.filter _).length + a.P.length + a.C.length : Nat) : Int)
    rw [h.lf]; unfold AS.total; omega
  case tot =>
    show (a.A.filter _).length + a.P.length + a.C.length ≤ a.credit
    have := h.tot; unfold AS.total at this; omega
  case mp =>
    show Lst (s.D.del (.int .u64 q)) ((a.A.filter (fun x => decide (x.1 ≠ off a.start q))).map (fun x => (ab a.start x.1, x.2)))
    have h1 := h.mp.del q
    rw [List.filter_map] at h1
    have e : a.A.filter ((fun x : Int × Past => decide (x.1 ≠ q)) ∘ fun x => (ab a.start x.1, x.2)) = a.A.filter (fun x => decide (x.1 ≠ off a.start q)) := by
      apply List.filter_congr
      intro x hx
      have hlt := A_lt h hk hx
      show decide (ab a.start x.1 ≠ q) = decide (x.1 ≠ off a.start q)
      have : (ab a.start x.1 = q) ↔ (x.1 = off a.start q) := by
        constructor
        · intro e; rw [← e, off_ab (by omega)]
        · intro e; rw [e, ab_off hq]
      simp only [ne_eq, this]
    rw [e] at h1
    exact h1
  case srt =>
    exact h.srt.sublist List.filter_sublist
  case lo =>
    intro x hx
    exact h.lo x (List.mem_filter.1 hx).1
def ret1A (a : AS) (o : Nat) (p : Past) : AS := { a with A := a.A.map (fun x => if x.1 = o then (o, ⟨p.n, p.g, true⟩) else x) }
theorem keysA (A : List (Nat × Past)) (o : Nat) (p : Past) : (A.map (fun x => if x.1 = o then (o, p) else x)).map Prod.fst = A.map Prod.fst := by
  rw [List.map_map]
  apply List.map_congr_left
  intro x _
  by_cases e : x.1 = o
  · simp [e]
  · simp [e]
theorem rel_ret1 {s : LS} {a : AS} {k : Nat} (h : Rel s a k) (hk : k < 1000000) {q : Int} (hq : U64 q) {p : Past} (hf : findA a.A (off a.start q) = some p) : Rel (ret1S s q p) (ret1A a (off a.start q) p) (k + 1) := by
  have hm := find_mem hf
  refine { cr := h.cr, c1 := h.c1, c64 := h.c64, tw := h.tw, pw := h.pw, sz := h.sz, st := h.st, hb := h.hb, hh := h.hh, hr := h.hr, ht := h.ht, ep := h.ep, rp := h.rp, rpi := h.rpi, rc := h.rc, bn := ?bn, lf := ?lf, tot := ?tot, mp := ?mp, srt := ?srt, lo := ?lo, bh := h.bh }
  case lf =>
    show s.left = (a.credit : Int) - (((a.A.map _).length + a.P.length + a.C.length : Nat) : Int)
    rw [List.length_map]; exact h.lf
  case tot =>
    show (a.A.map _).length + a.P.length + a.C.length ≤ a.credit
    rw [List.length_map]; exact h.tot
  case mp =>
    show Lst (s.D.put (.int .u64 q) (.held ⟨p.n, p.g, true⟩)) ((a.A.map _).map (fun x : Nat × Past => (ab a.start x.1, x.2)))
    have h1 := h.mp.put_old q ⟨p.n, p.g, true⟩ ⟨p, List.mem_map.2 ⟨_, hm, by rw [ab_off hq]⟩⟩
    unfold setL at h1
    rw [List.map_map] at h1 ⊢
    have e : a.A.map ((fun x : Int × Past => if x.1 = q then (q, (⟨p.n, p.g, true⟩ : Past)) else x) ∘ fun x => (ab a.start x.1, x.2)) = a.A.map ((fun x : Nat × Past => (ab a.start x.1, x.2)) ∘ fun x => if x.1 = off a.start q then (off a.start q, (⟨p.n, p.g, true⟩ : Past)) else x) := by
      apply List.map_congr_left
      intro x hx
      have hlt := A_lt h hk hx
      show (if ab a.start x.1 = q then (q, (⟨p.n, p.g, true⟩ : Past)) else (ab a.start x.1, x.2)) = (fun x : Nat × Past => (ab a.start x.1, x.2)) (if x.1 = off a.start q then (off a.start q, (⟨p.n, p.g, true⟩ : Past)) else x)
      by_cases e : x.1 = off a.start q
      · rw [if_pos e, if_pos (by rw [e, ab_off hq])]
        simp only [ab_off hq]
      · rw [if_neg e, if_neg (fun e2 => e (by rw [← e2, off_ab (by omega)]))]
    rw [e] at h1
    exact h1
  case srt =>
    have hk2 : (a.A.map (fun x => if x.1 = off a.start q then (off a.start q, (⟨p.n, p.g, true⟩ : Past)) else x)).map Prod.fst = a.A.map Prod.fst := keysA _ _ _
    have h9 : (a.A.map Prod.fst).Pairwise (fun x y : Nat => x < y) := List.pairwise_map.2 h.srt
    rw [← hk2] at h9
    exact List.pairwise_map.1 h9
  case lo =>
    intro x hx
    obtain ⟨y, hy, rfl⟩ := List.mem_map.1 hx
    by_cases e : y.1 = off a.start q
    · have := h.lo y hy
      rw [if_pos e, ← e]; exact this
    · rw [if_neg e]; exact h.lo y hy
  case bn =>
    exact ⟨Nat.le_succ_of_le h.bn.1, Nat.le_succ_of_le h.bn.2.1, Nat.succ_le_succ h.bn.2.2⟩
/-! ### Reset -/
def resetS (s : LS) : LS := { s with ring := fun _ => ⟨0, 0, 0, 0, 0⟩, base := s.tail, head := s.tail, left := s.credit, epoch := IntKind.u64.wrap (s.epoch + 1), n := 0, D := .map [] }
def resetA (a : AS) : AS := { a with base := a.tail, head := a.tail, epoch := a.epoch + 1, A := [], P := [], C := [] }
theorem rel_reset {s : LS} {a : AS} {k : Nat} (h : Rel s a k) (hk : k < 1000000) (hC : a.C = []) : Rel (resetS s) (resetA a) (k + 1) := by
  have hb := h.bn
  refine { cr := h.cr, c1 := h.c1, c64 := h.c64, tw := h.tw, pw := h.pw, sz := h.sz, st := h.st, hb := h.ht, hh := h.ht, hr := ?hr, ht := ?ht, ep := ?ep, rp := ?rp, rpi := ?rpi, rc := ?rc, bn := ?bn, lf := ?lf, tot := Nat.zero_le _, mp := Lst.nil, srt := List.Pairwise.nil, lo := ?lo, bh := Nat.le_refl _ }
  case lf =>
    show s.credit = (a.credit : Int) - ((0 : Nat) : Int)
    rw [h.cr]; omega
  case hr =>
    show s.ready = ab a.start a.tail
    rw [h.hr]; unfold AS.tail; rw [hC]; rfl
  case ht =>
    exact h.ht
  case ep =>
    show IntKind.u64.wrap (s.epoch + 1) = ((a.epoch + 1 : Nat) : Int)
    rw [h.ep, IntKind.wrap_u64]; omega
  case rp =>
    intro i e he; simp [resetA] at he
  case rpi =>
    intro e he; simp [resetA] at he
  case rc =>
    intro i c hc; simp [resetA] at hc
  case lo =>
    intro x hx; simp [resetA] at hx
  case bn =>
    exact ⟨Nat.le_succ_of_le hb.1, Nat.succ_le_succ hb.2.1, Nat.zero_le _⟩
end Go.Proofs.Ytglekbbdbnpohaa.QLn
/- Lane: each call (but Reset) against the plain machine. -/
namespace Go.Proofs.Ytglekbbdbnpohaa.QLn
open Go.RowKit Go.Proofs.YtglekbbdbnpohaaW.PrintWords Go.Proofs.YtglekbbdbnpohaaW.PrintLast Go.Proofs.YtglekbbdbnpohaaW.PrintMore
set_option linter.unusedVariables false
set_option linter.unusedSimpArgs false
theorem Claim_full (b : Nat) (s : LS) (hl0 : s.left = 0) (hc : 0 < s.credit) (w : World) (h : Ln w b s) : Calls Try.prog 15 #[.pointer (some ⟨b, 0, none⟩)] w fun e w' =>
    e = .returned (.tuple #[.agg (aTick 0 0), .int .i64 81]) ∧ Below w.heap.size w w' := by
  have d1 : decide (s.credit > 0) = true := decide_eq_true hc
  have d2 : (s.left == 0) = true := by simp [hl0]
  have HB0 := Aside0.mk ((Bd.start h).alloc (.cells (aTick 0 0) 34))
  have HW0 : Aside0 (Below w.heap.size w (w.alloc (.cells (aTick 0 0) 34))) := ⟨(Below.refl _ _).alloc (Nat.le_refl _) _⟩
  clear h hc hl0
  go_enter Try.func15, Try.ntmps15
  go_upto_region 1 with fail
  generalize w.alloc (.cells (aTick 0 0) 34) = w0 at HB0 HW0 ⊢
  go_upto_region 3 with (go_at_call 34; refine (is_calls b s _ HB0.out.ln).mono ?_; rintro e1 w1 ⟨rfl, hw1⟩; have HB1 := Aside0.mk (HB0.out.below hw1); have HW1 := Aside0.mk (HW0.out.trans (hw1.mono HW0.out.size)); clear hw1)
  have c2 : w1.cell? ⟨b, 2, none⟩ = some (.int .i64 s.left) := HB1.out.ln.cell 2 (by omega)
  have hr := (HB1.out.obj (w.heap.size, _) List.mem_cons_self).1
  go_wp2_with (first | ((with_reducible refine gate_store (t := 34) (p := 2) rfl ?_); refine store_blk rfl 34 (.tmp 2) (.tmp 16) rfl w.heap.size 0 (aTick 0 0) (aTick 0 0) 34 rfl rfl hr (by simp) (by kernel_rfl) (by kernel_rfl) ?_; intro w7 hw7 hr7; have HW7 := Aside0.mk (And.intro hw7 hr7); clear hw7 hr7))
  exact bodyPost_ret (res_ct (t := 34) rfl rfl rfl HW7.out.2 Try.underlying34 rfl (by kernel_rfl)) rfl ⟨rfl, by rw [HW7.out.1]; exact below_setCells (Nat.le_refl _) _ _ _ HW1.out⟩
/-- The lane at b, its map at mb, is the plain machine's state a. -/
def LnA (w : World) (b mb : Nat) (a : AS) (k : Nat) : Prop := ∃ s, Ln w b s ∧ s.mb = mb ∧ Rel s a k
theorem LnA.below {w w' : World} {b mb : Nat} {a : AS} {k : Nat} (h : LnA w b mb a k) (j : Below w.heap.size w w') : LnA w' b mb a k := by
  obtain ⟨s, h1, h2, h3⟩ := h
  exact ⟨s, h1.below j, h2, h3⟩
theorem LnA.mono {w : World} {b mb : Nat} {a : AS} {k k' : Nat} (h : LnA w b mb a k) (hk : k ≤ k') : LnA w b mb a k' := by
  obtain ⟨s, h1, h2, h3⟩ := h
  exact ⟨s, h1, h2, h3.mono hk⟩
theorem LnA.far {w w' : World} {b mb b' m' : Nat} {a : AS} {k : Nat} (h : LnA w b mb a k) (j : Far b' m' w w') (h1 : b ≠ b') (h2 : b ≠ m') (h3 : mb ≠ b') (h4 : mb ≠ m') : LnA w' b mb a k := by
  obtain ⟨s, hs, hm, hr⟩ := h
  exact ⟨s, hs.far j h1 h2 (by rw [hm]; exact h3) (by rw [hm]; exact h4), hm, hr⟩
theorem LnA.lt {w : World} {b mb : Nat} {a : AS} {k : Nat} (h : LnA w b mb a k) : b < w.heap.size ∧ mb < w.heap.size ∧ b ≠ mb := by
  obtain ⟨s, hs, hm, hr⟩ := h
  exact ⟨hs.lt, hm ▸ hs.map.lt, hm ▸ hs.ne⟩
theorem Rel.pos {s : LS} {a : AS} {k : Nat} (h : Rel s a k) : 0 < s.credit := by rw [h.cr]; have := h.c1; omega
theorem A_new (c : Int) (two : Bool) (st : Int) (h1 : 1 ≤ c) (h2 : c ≤ 64) (hst : U64 st) (w : World) : Calls Try.prog 10 #[.int .i64 c, .bool two, .int .u64 st] w fun e w' =>
    e = .returned (.tuple #[.pointer (some ⟨w.heap.size + 1, 0, none⟩), .int .i64 0]) ∧ Below w.heap.size w w' ∧ LnA w' (w.heap.size + 1) w.heap.size (newA c.toNat two st) 0 := by
  refine (New_calls c two st h1 h2 hst w).mono ?_
  rintro e w' ⟨sz, hp, hc, rfl, hb, hl⟩
  have hcn : ((c.toNat : Nat) : Int) = c := by omega
  refine ⟨rfl, hb, _, hl, rfl, ?_⟩
  have := rel_new c.toNat two st sz w.heap.size (by omega) (by omega) hst hp (by omega)
  rwa [hcn] at this
def claimR (a : AS) : AS × Value := if a.total < a.credit then (claimA a, .tuple #[.agg (aTick (ab a.start a.tail) a.epoch), .int .i64 0]) else (a, .tuple #[.agg (aTick 0 0), .int .i64 81])
theorem A_claim {b mb : Nat} {a : AS} {k : Nat} {w : World} (h : LnA w b mb a k) : Calls Try.prog 15 #[.pointer (some ⟨b, 0, none⟩)] w fun e w' =>
    e = .returned (claimR a).2 ∧ LnA w' b mb (claimR a).1 (k + 1) ∧ Far b mb w w' := by
  obtain ⟨s, hs, rfl, hr⟩ := h
  unfold claimR
  have hl := hr.lf
  have ht := hr.tot
  have hc := hr.c64
  by_cases hroom : a.total < a.credit
  · rw [if_pos hroom]
    refine (Claim_calls b s (by omega) (by omega) hr.pos (by rw [hr.ht]; exact ab_u64 _ _) hr.pw w hs).mono ?_
    rintro e w' ⟨rfl, h1, h2⟩
    exact ⟨by rw [hr.ht, hr.ep], ⟨_, h1, rfl, rel_claim hr hroom⟩, h2⟩
  · rw [if_neg hroom]
    refine (Claim_full b s (by omega) hr.pos w hs).mono ?_
    rintro e w' ⟨rfl, h1⟩
    exact ⟨rfl, ⟨s, hs.below h1, rfl, hr.mono (Nat.le_succ k)⟩, Far.of_below h1⟩
def layR (a : AS) (q ep n g : Int) : AS × Int := if ep = a.epoch ∧ inC a (off a.start q) = true then (layA a (off a.start q - a.ready) n g, 0) else (a, 82)
theorem A_lay {b mb : Nat} {a : AS} {k : Nat} {w : World} (h : LnA w b mb a k) (hk : k < 1000000) (q ep n g : Int) (hq : U64 q) : Calls Try.prog 16 #[.pointer (some ⟨b, 0, none⟩), .agg (aTick q ep), .agg (aSlot n g)] w fun e w' =>
    e = .returned (.int .i64 (layR a q ep n g).2) ∧ LnA w' b mb (layR a q ep n g).1 (k + 1) ∧ Far b mb w w' := by
  obtain ⟨s, hs, rfl, hr⟩ := h
  refine (Lay_calls b s q ep n g hr.pos hq hr.pw w hs).mono ?_
  rintro e w' ⟨rfl, h1, h2⟩
  unfold layR
  unfold layF at h1 ⊢
  by_cases hc : ep = a.epoch ∧ inC a (off a.start q) = true
  · obtain ⟨e1, e2, e3⟩ := claimF_some hr hk hq hc.1 hc.2
    rw [e1] at h1
    rw [if_pos hc, e1]
    exact ⟨rfl, ⟨_, h1, rfl, (rel_lay hr e2 n g).mono (Nat.le_succ k)⟩, h2⟩
  · rw [claimF_none hr hk hq hc] at h1
    rw [if_neg hc, claimF_none hr hk hq hc]
    exact ⟨rfl, ⟨_, h1, rfl, hr.mono (Nat.le_succ k)⟩, h2⟩
def readyR (a : AS) (q ep : Int) : Bool := decide (ep = a.epoch) && (decide (off a.start q = a.ready) && (match a.C with
  | c :: _ => c.laid
  | [] => false))
theorem readyF_eq {s : LS} {a : AS} {k : Nat} (h : Rel s a k) (hk : k < 1000000) {q ep : Int} (hq : U64 q) : readyF s q ep = readyR a q ep := by
  unfold readyF readyR
  by_cases hc : ep = a.epoch ∧ inC a (off a.start q) = true
  · obtain ⟨e1, e2, e3⟩ := claimF_some h hk hq hc.1 hc.2
    rw [e1, decide_eq_true hc.1, Bool.true_and]
    have hi := hc.2
    unfold inC at hi
    rw [decide_eq_true_iff] at hi
    obtain ⟨c, hg⟩ : ∃ c, a.C[off a.start q - a.ready]? = some c := ⟨_, List.getElem?_eq_getElem e2⟩
    have hrc := (h.rc _ _ hg).1
    simp only
    rw [hrc]
    clear hrc
    by_cases h0 : off a.start q = a.ready
    · rw [decide_eq_true h0, Bool.true_and]
      have hq2 : (q == s.ready) = true := by rw [e3, h.hr, h0]; simp
      rw [hq2, Bool.and_true]
      have hz : off a.start q - a.ready = 0 := by omega
      rw [hz] at hg
      clear e1 e2 e3 hi hc
      cases hC : a.C with
      | nil => rw [hC] at hg; simp at hg
      | cons c0 C =>
        rw [hC] at hg
        have hcc : c0 = c := by simpa using hg
        subst hcc
        cases hh : c0.laid <;> simp [hh]
    · rw [decide_eq_false h0, Bool.false_and]
      have hq2 : (q == s.ready) = false := by
        rw [e3, h.hr]
        have hb := h.bn.1
        cases hh : (ab a.start (a.ready + (off a.start q - a.ready)) == ab a.start a.ready) with
        | false => rfl
        | true =>
          have := ab_inj (by omega) (by omega) (beq_iff_eq.1 hh)
          omega
      rw [hq2, Bool.and_false]
  · rw [claimF_none h hk hq hc]
    simp only
    by_cases he : ep = a.epoch
    · rw [decide_eq_true he, Bool.true_and]
      by_cases h0 : off a.start q = a.ready
      · cases hC : a.C with
        | nil => simp
        | cons c C =>
          exfalso
          refine hc ⟨he, ?_⟩
          unfold inC AS.tail
          rw [decide_eq_true_iff, h0, hC]
          simp
      · rw [decide_eq_false h0, Bool.false_and]
    · rw [decide_eq_false he, Bool.false_and]
theorem A_ready {b mb : Nat} {a : AS} {k : Nat} {w : World} (h : LnA w b mb a k) (hk : k < 1000000) (q ep : Int) (hq : U64 q) : Calls Try.prog 21 #[.pointer (some ⟨b, 0, none⟩), .agg (aTick q ep)] w fun e w' =>
    e = .returned (.bool (readyR a q ep)) ∧ Below w.heap.size w w' := by
  obtain ⟨s, hs, rfl, hr⟩ := h
  rw [← readyF_eq hr hk hq]
  exact Ready_calls b s q ep hr.pos hq hr.pw w hs
def pubR (a : AS) (q ep x y : Int) : AS × Int := if ep = a.epoch ∧ inC a (off a.start q) = true then
    (match a.C[off a.start q - a.ready]? with
    | none => (a, 82)
    | some c => if c.laid = false then (a, 82) else if off a.start q ≠ a.ready then (a, 83) else (pubA a c a.C.tail x y, 0))
  else (a, 82)
theorem A_pub {b mb : Nat} {a : AS} {k : Nat} {w : World} (h : LnA w b mb a k) (hk : k < 1000000) (q ep x y : Int) (hq : U64 q) : Calls Try.prog 20 #[.pointer (some ⟨b, 0, none⟩), .agg (aTick q ep), .agg (aStamp x y)] w fun e w' =>
    e = .returned (.int .i64 (pubR a q ep x y).2) ∧ LnA w' b mb (pubR a q ep x y).1 (k + 1) ∧ Far b mb w w' := by
  obtain ⟨s, hs, rfl, hr⟩ := h
  refine (Publish_calls b s q ep x y hr.pos hq hr.pw w hs).mono ?_
  rintro e w' ⟨rfl, h1, h2⟩
  unfold pubR
  unfold pubF at h1 ⊢
  by_cases hc : ep = a.epoch ∧ inC a (off a.start q) = true
  · obtain ⟨e1, e2, e3⟩ := claimF_some hr hk hq hc.1 hc.2
    have hi := hc.2
    unfold inC at hi
    rw [decide_eq_true_iff] at hi
    obtain ⟨c, hg⟩ : ∃ c, a.C[off a.start q - a.ready]? = some c := ⟨_, List.getElem?_eq_getElem e2⟩
    have hrc := (hr.rc _ _ hg).1
    rw [e1] at h1
    rw [if_pos hc, e1, hg]
    simp only at h1 ⊢
    rw [hrc] at h1 ⊢
    clear hrc
    by_cases hl : c.laid = true
    · have hne : ¬ ((if c.laid = true then (2 : Int) else 1) ≠ 2) := by rw [hl]; decide
      rw [if_neg hne] at h1
      rw [if_neg hne, if_neg (show ¬ c.laid = false by rw [hl]; decide)]
      by_cases h0 : off a.start q = a.ready
      · have hq2 : q = s.ready := by rw [e3, hr.hr, h0]; simp
        rw [if_neg (fun h => h hq2)] at h1
        rw [if_neg (fun h => h hq2), if_neg (fun h => h h0)]
        refine ⟨rfl, ⟨_, h1, rfl, ?_⟩, h2⟩
        have hz : off a.start q - a.ready = 0 := by omega
        rw [hz] at hg ⊢
        cases hC : a.C with
        | nil => rw [hC] at hg; simp at hg
        | cons c0 C =>
          rw [hC] at hg
          have hcc : c0 = c := by simpa using hg
          subst hcc
          exact (rel_pub hr hC hl x y).mono (Nat.le_succ k)
      · have hq2 : q ≠ s.ready := by
          rw [e3, hr.hr]
          have hb := hr.bn.1
          intro hh
          have := ab_inj (by omega) (by omega) hh
          omega
        rw [if_pos hq2] at h1
        rw [if_pos hq2, if_pos h0]
        exact ⟨rfl, ⟨_, h1, rfl, hr.mono (Nat.le_succ k)⟩, h2⟩
    · have hl' : c.laid = false := by simpa using hl
      have hne : (if c.laid = true then (2 : Int) else 1) ≠ 2 := by rw [hl']; decide
      rw [if_pos hne] at h1
      rw [if_pos hne, if_pos hl']
      exact ⟨rfl, ⟨_, h1, rfl, hr.mono (Nat.le_succ k)⟩, h2⟩
  · rw [claimF_none hr hk hq hc] at h1
    rw [if_neg hc, claimF_none hr hk hq hc]
    exact ⟨rfl, ⟨_, h1, rfl, hr.mono (Nat.le_succ k)⟩, h2⟩
def firstR (a : AS) : Value := match a.P with
  | [] => .tuple #[.agg (aStamp 0 0), .agg (aTick 0 0), .bool false]
  | e :: _ => .tuple #[.agg (aStamp e.tk e.st), .agg (aTick (ab a.start a.head) a.epoch), .bool true]
theorem A_first {b mb : Nat} {a : AS} {k : Nat} {w : World} (h : LnA w b mb a k) (hk : k < 1000000) : Calls Try.prog 23 #[.pointer (some ⟨b, 0, none⟩)] w fun e w' =>
    e = .returned (firstR a) ∧ Below w.heap.size w w' := by
  obtain ⟨s, hs, rfl, hr⟩ := h
  have e : firstF s = firstR a := by
    unfold firstF firstR
    cases hP : a.P with
    | nil => rw [if_pos ((empty_iff hr hk).2 hP)]
    | cons e P => rw [if_neg (fun h => by rw [(empty_iff hr hk).1 h] at hP; cases hP), first_ent hr hP, hr.hh, hr.ep]
  rw [← e]
  exact First_calls b s hr.pos (by rw [hr.hh]; exact ab_u64 _ _) hr.pw w hs
def takeR (a : AS) : AS × Value := match a.P with
  | [] => (a, .tuple #[.agg (aSlot 0 0), .agg (aTick 0 0), .int .i64 82])
  | e :: P => (takeA a e P, .tuple #[.agg (aSlot e.n e.g), .agg (aTick (ab a.start a.head) a.epoch), .int .i64 0])
theorem A_take {b mb : Nat} {a : AS} {k : Nat} {w : World} (h : LnA w b mb a k) (hk : k < 1000000) : Calls Try.prog 17 #[.pointer (some ⟨b, 0, none⟩)] w fun e w' =>
    e = .returned (takeR a).2 ∧ LnA w' b mb (takeR a).1 (k + 1) ∧ Far b mb w w' := by
  obtain ⟨s, hs, rfl, hr⟩ := h
  have hu : U64 s.head := by rw [hr.hh]; exact ab_u64 _ _
  unfold takeR
  cases hP : a.P with
  | nil =>
    refine (Take_none b s hr.pos hu ((empty_iff hr hk).2 hP) hr.pw w hs).mono ?_
    rintro e w' ⟨rfl, h1⟩
    exact ⟨rfl, ⟨s, hs.below h1, rfl, hr.mono (Nat.le_succ k)⟩, Far.of_below h1⟩
  | cons e P =>
    refine (Take_calls b s hr.pos hu (fun h => by rw [(empty_iff hr hk).1 h] at hP; cases hP) hr.pw (by have := hr.bn.2.2; omega) w hs).mono ?_
    rintro e' w' ⟨rfl, h1, h2⟩
    exact ⟨by rw [first_ent hr hP, hr.hh, hr.ep], ⟨_, h1, rfl, rel_take hr hk hP⟩, h2⟩
def retR (a : AS) (q ep : Int) : AS × Value := if ep ≠ a.epoch then (a, .tuple #[.agg (aSlot 0 0), .bool false, .int .i64 0]) else
  match findA a.A (off a.start q) with
  | none => (a, .tuple #[.agg (aSlot 0 0), .bool false, .int .i64 82])
  | some p => if p.held = true then (a, .tuple #[.agg (aSlot 0 0), .bool false, .int .i64 82]) else
    if a.two = true then (ret2A a (off a.start q), .tuple #[.agg (aSlot p.n p.g), .bool true, .int .i64 0]) else (ret1A a (off a.start q) p, .tuple #[.agg (aSlot 0 0), .bool false, .int .i64 0])
theorem A_ret {b mb : Nat} {a : AS} {k : Nat} {w : World} (h : LnA w b mb a k) (hk : k < 1000000) (q ep : Int) (hq : U64 q) : Calls Try.prog 19 #[.pointer (some ⟨b, 0, none⟩), .agg (aTick q ep)] w fun e w' =>
    e = .returned (retR a q ep).2 ∧ LnA w' b mb (retR a q ep).1 (k + 1) ∧ Far b mb w w' := by
  obtain ⟨s, hs, rfl, hr⟩ := h
  unfold retR
  by_cases he : ep = a.epoch
  · rw [if_neg (fun h => h he)]
    have he' : ep = s.epoch := he.trans hr.ep.symm
    have hlk := look_A hr hk hq
    cases hf : findA a.A (off a.start q) with
    | none =>
      rw [hf] at hlk
      refine (Retire_bad b s q ep hr.pos hq he' ⟨0, 0, false⟩ false (by rw [hlk]; rfl) (by rw [hlk]; rfl) (Or.inl rfl) w hs).mono ?_
      rintro e w' ⟨rfl, h1⟩
      exact ⟨rfl, ⟨s, hs.below h1, rfl, hr.mono (Nat.le_succ k)⟩, Far.of_below h1⟩
    | some p =>
      rw [hf] at hlk
      simp only
      by_cases hh : p.held = true
      · rw [if_pos hh]
        refine (Retire_bad b s q ep hr.pos hq he' p true (by rw [hlk]; rfl) (by rw [hlk]; rfl) (Or.inr hh) w hs).mono ?_
        rintro e w' ⟨rfl, h1⟩
        exact ⟨rfl, ⟨s, hs.below h1, rfl, hr.mono (Nat.le_succ k)⟩, Far.of_below h1⟩
      · rw [if_neg hh]
        have hh' : p.held = false := by simpa using hh
        by_cases ht : a.two = true
        · rw [if_pos ht]
          have hm := find_mem hf
          have hpos : 0 < a.A.length := List.length_pos_of_mem hm
          have hlf := hr.lf
          have htot := hr.tot
          have h64 := hr.c64
          refine (Retire_two b s q ep hr.pos hq he' p hlk hh' (hr.tw.trans ht) (by omega) (by unfold AS.total at hlf; omega) w hs).mono ?_
          rintro e w' ⟨rfl, h1, h2⟩
          exact ⟨rfl, ⟨_, h1, rfl, (rel_ret2 hr hk hq hf).mono (Nat.le_succ k)⟩, h2⟩
        · rw [if_neg ht]
          refine (Retire_one b s q ep hr.pos hq he' p hlk hh' (by rw [hr.tw]; simpa using ht) (by have := hr.bn.2.2; omega) w hs).mono ?_
          rintro e w' ⟨rfl, h1, h2⟩
          exact ⟨rfl, ⟨_, h1, rfl, rel_ret1 hr hk hq hf⟩, h2⟩
  · rw [if_pos he]
    refine (Retire_old b s q ep hr.pos hq (fun h => he (h.trans hr.ep)) w hs).mono ?_
    rintro e w' ⟨rfl, h1⟩
    exact ⟨rfl, ⟨s, hs.below h1, rfl, hr.mono (Nat.le_succ k)⟩, Far.of_below h1⟩
def heldN (a : AS) (hb : Bool) : Nat := (a.A.filter (fun x => x.2.held == hb)).length
def stateR (a : AS) : Array Value := aSt ((a.credit : Int) - (a.total : Int)) a.C.length a.P.length (heldN a false) (heldN a true) a.epoch
theorem A_state {b mb : Nat} {a : AS} {k : Nat} {w : World} (h : LnA w b mb a k) (hk : k < 1000000) : Calls Try.prog 13 #[.pointer (some ⟨b, 0, none⟩)] w fun e w' =>
    e = .returned (.agg (stateR a)) ∧ Below w.heap.size w w' := by
  obtain ⟨s, hs, rfl, hr⟩ := h
  have hlen : (a.A.map (fun x => (ab a.start x.1, x.2))).length < 1000000 := by
    rw [List.length_map]; have := hr.tot; have := hr.c64; unfold AS.total at *; omega
  refine (State_calls b s _ hr.mp hlen hr.pos w hs).mono ?_
  rintro e w' ⟨rfl, h1⟩
  refine ⟨?_, h1⟩
  have hb := hr.bn.1
  have hrt : a.head ≤ a.ready := by unfold AS.ready; omega
  have htt : a.ready ≤ a.tail := by unfold AS.tail; omega
  have e1 : claimedN s = (a.C.length : Int) := by
    unfold claimedN
    rw [hr.ht, hr.hr, wsub _ _ _ htt (by omega), show a.tail - a.ready = a.C.length by unfold AS.tail; omega, IntKind.wrap_i64]
    have := hr.tot; have := hr.c64; unfold AS.total at *; omega
  have e2 : pubN s = (a.P.length : Int) := by
    unfold pubN
    rw [hr.hh, hr.hr, wsub _ _ _ hrt (by omega), show a.ready - a.head = a.P.length by unfold AS.ready; omega, IntKind.wrap_i64]
    have := hr.tot; have := hr.c64; unfold AS.total at *; omega
  have e3 : ∀ hb, cnt (a.A.map (fun x => (ab a.start x.1, x.2))) hb = heldN a hb := fun hb => by
    unfold cnt heldN
    rw [List.filter_map, List.length_map]; rfl
  unfold stateA stateR
  rw [e1, e2, e3, e3, hr.lf, hr.ep]
end Go.Proofs.Ytglekbbdbnpohaa.QLn
