/- Lane: the plain machine: publishing, taking, retiring, letting go. No program in sight. -/
import Derived.Test.YtglekbbdbnpohaaNLn
namespace Go.Proofs.Ytglekbbdbnpohaa.QLn
open Go.RowKit
set_option linter.unusedVariables false
set_option linter.unusedSimpArgs false
/-! ### Publish -/
def pubA (a : AS) (c : Clm) (C : List Clm) (x y : Int) : AS := { a with P := a.P ++ [⟨3, c.n, c.g, x, y⟩], C := C }
theorem rel_pub {s : LS} {a : AS} {k : Nat} (h : Rel s a k) {c : Clm} {C : List Clm} (hC : a.C = c :: C) (hl : c.laid = true) (x y : Int) : Rel (pubS s (pl s (ab a.start a.ready)) x y) (pubA a c C x y) k := by
  have hr0 := h.rc 0 c (by rw [hC]; rfl)
  have hlen : a.C.length = C.length + 1 := by rw [hC]; rfl
  have hready : (pubA a c C x y).ready = a.ready + 1 := by unfold AS.ready pubA; simp; omega
  have htot := h.tot
  have hsz := h.sz
  unfold AS.total at htot
  refine { cr := h.cr, c1 := h.c1, c64 := h.c64, tw := h.tw, pw := h.pw, sz := h.sz, st := h.st, hb := h.hb, hh := h.hh, ep := h.ep, mp := h.mp, srt := h.srt, lo := h.lo, bh := h.bh, lf := ?lf, tot := ?tot, hr := ?hr, ht := ?ht, bn := ?bn, rp := ?rp, rpi := ?rpi, rc := ?rc }
  case lf =>
    show s.left = (a.credit : Int) - ((a.A.length + (a.P ++ [_]).length + C.length : Nat) : Int)
    rw [h.lf]; unfold AS.total; rw [List.length_append, hlen]; simp; omega
  case tot =>
    show a.A.length + (a.P ++ [_]).length + C.length ≤ a.credit
    rw [List.length_append]; simp; omega
  case hr =>
    show IntKind.u64.wrap (s.ready + 1) = ab a.start (pubA a c C x y).ready
    rw [h.hr, wsucc, hready]
  case ht =>
    show s.tail = ab a.start ((pubA a c C x y).ready + C.length)
    rw [h.ht, hready]; unfold AS.tail; rw [hlen]; congr 1; omega
  case bn =>
    refine ⟨?_, h.bn.2⟩
    show (pubA a c C x y).ready + C.length ≤ k
    rw [hready]; have := h.bn.1; unfold AS.tail at this; omega
  case rp =>
    intro i e he
    change (a.P ++ [_])[i]? = some e at he
    show upd s.ring (pl s (ab a.start a.ready)) _ (pl s (ab a.start (a.head + i))) = e
    by_cases hi : i < a.P.length
    · rw [List.getElem?_append_left hi] at he
      rw [upd_other, h.rp i e he]
      refine pl_ne h.pw ?_ ?_
      · unfold AS.ready; omega
      · unfold AS.ready; omega
    · have e1 : i = a.P.length := by
        have := (List.getElem?_eq_some_iff.1 he).1
        rw [List.length_append] at this; simp at this; omega
      subst e1
      rw [List.getElem?_append_right (Nat.le_refl _), Nat.sub_self] at he
      rw [show a.head + a.P.length = a.ready from rfl, upd_same]
      have h2 := hr0.2 hl
      rw [Nat.add_zero] at h2
      rw [h2.1, h2.2]
      simpa using he
  case rpi =>
    intro e he
    rcases List.mem_append.1 he with h1 | h1
    · exact h.rpi e h1
    · rw [List.mem_singleton.1 h1]
  case rc =>
    intro i d hd
    change C[i]? = some d at hd
    have hd' : a.C[i + 1]? = some d := by rw [hC]; simpa using hd
    have hi := (List.getElem?_eq_some_iff.1 hd).1
    have hne : pl s (ab a.start (a.ready + 1 + i)) ≠ pl s (ab a.start a.ready) := (pl_ne h.pw (by omega) (by omega)).symm
    show (upd s.ring (pl s (ab a.start a.ready)) _ (pl s (ab a.start ((pubA a c C x y).ready + i)))).is = _ ∧ (_ → (upd s.ring (pl s (ab a.start a.ready)) _ (pl s (ab a.start ((pubA a c C x y).ready + i)))).n = _ ∧ (upd s.ring (pl s (ab a.start a.ready)) _ (pl s (ab a.start ((pubA a c C x y).ready + i)))).g = _)
    rw [hready, upd_other _ _ hne, show a.ready + 1 + i = a.ready + (i + 1) by omega]
    exact h.rc (i + 1) d hd'
/-! ### Take -/
theorem empty_iff {s : LS} {a : AS} {k : Nat} (h : Rel s a k) (hk : k < 1000000) : s.head = s.ready ↔ a.P = [] := by
  have hb := h.bn.1
  have : a.ready ≤ a.tail := by unfold AS.tail; omega
  constructor
  · intro e
    rw [h.hh, h.hr] at e
    have := ab_inj (by unfold AS.ready at *; omega) (by omega) e
    unfold AS.ready at this
    exact List.eq_nil_of_length_eq_zero (by omega)
  · intro e
    rw [h.hh, h.hr]; unfold AS.ready; rw [e]; rfl
theorem first_ent {s : LS} {a : AS} {k : Nat} (h : Rel s a k) {e : Ent} {P : List Ent} (hP : a.P = e :: P) : s.ring (pl s s.head) = e := by
  have := h.rp 0 e (by rw [hP]; rfl)
  rw [h.hh]
  exact this
def takeA (a : AS) (e : Ent) (P : List Ent) : AS := { a with head := a.head + 1, A := a.A ++ [(a.head, ⟨e.n, e.g, false⟩)], P := P }
theorem rel_take {s : LS} {a : AS} {k : Nat} (h : Rel s a k) (hk : k < 1000000) {e : Ent} {P : List Ent} (hP : a.P = e :: P) : Rel (takeS s) (takeA a e P) (k + 1) := by
  have hlen : a.P.length = P.length + 1 := by rw [hP]; rfl
  have hready : (takeA a e P).ready = a.ready := by unfold AS.ready takeA; simp only; omega
  have htot := h.tot
  have hsz := h.sz
  have he := first_ent h hP
  have hb := h.bn.1
  have hle : a.head < a.tail := by unfold AS.tail AS.ready; omega
  unfold AS.total at htot
  refine { cr := h.cr, c1 := h.c1, c64 := h.c64, tw := h.tw, pw := h.pw, sz := h.sz, st := h.st, hb := h.hb, ep := h.ep, lf := ?lf, tot := ?tot, hh := ?hh, hr := ?hr, ht := ?ht, mp := ?mp, srt := ?srt, lo := ?lo, bn := ?bn, rp := ?rp, rpi := ?rpi, rc := ?rc, bh := Nat.le_succ_of_le h.bh }
  case lf =>
    show s.left = (a.credit : Int) - (((a.A ++ [_]).length + P.length + a.C.length : Nat) : Int)
    rw [h.lf]; unfold AS.total; rw [List.length_append, hlen]; simp; omega
  case tot =>
    show (a.A ++ [_]).length + P.length + a.C.length ≤ a.credit
    rw [List.length_append]; simp; omega
  case hh =>
    show IntKind.u64.wrap (s.head + 1) = ab a.start (a.head + 1)
    rw [h.hh, wsucc]
  case hr =>
    show s.ready = ab a.start (takeA a e P).ready
    rw [hready]; exact h.hr
  case ht =>
    show s.tail = ab a.start ((takeA a e P).ready + a.C.length)
    rw [hready]; exact h.ht
  case mp =>
    show Lst (s.D.put (.int .u64 s.head) (.held ⟨(s.ring (pl s s.head)).n, (s.ring (pl s s.head)).g, false⟩)) ((a.A ++ [(a.head, (⟨e.n, e.g, false⟩ : Past))]).map (fun x : Nat × Past => (ab a.start x.1, x.2)))
    rw [he, h.hh, List.map_append]
    refine h.mp.put_new _ _ (fun x hx => ?_)
    obtain ⟨y, hy, rfl⟩ := List.mem_map.1 hx
    have := h.lo y hy
    intro hc
    have := ab_inj (by omega) (by omega) hc
    omega
  case srt =>
    show (a.A ++ [(a.head, _)]).Pairwise _
    rw [List.pairwise_append]
    refine ⟨h.srt, List.pairwise_singleton _ _, fun x hx y hy => ?_⟩
    rw [List.mem_singleton.1 hy]
    exact (h.lo x hx).2
  case lo =>
    intro x hx
    rcases List.mem_append.1 hx with h1 | h1
    · have := h.lo x h1
      exact ⟨this.1, Nat.lt_succ_of_lt this.2⟩
    · rw [List.mem_singleton.1 h1]
      exact ⟨h.bh, Nat.lt_succ_self _⟩
  case bn =>
    refine ⟨?_, Nat.le_succ_of_le h.bn.2.1, Nat.succ_le_succ h.bn.2.2⟩
    show (takeA a e P).ready + a.C.length ≤ k + 1
    rw [hready]; unfold AS.tail at hb; omega
  case rp =>
    intro i d hd
    change P[i]? = some d at hd
    have hi := (List.getElem?_eq_some_iff.1 hd).1
    show upd s.ring (pl s s.head) _ (pl s (ab a.start (a.head + 1 + i))) = d
    have hne : pl s (ab a.start (a.head + 1 + i)) ≠ pl s s.head := by rw [h.hh]; exact (pl_ne h.pw (by omega) (by omega)).symm
    rw [upd_other _ _ hne, show a.head + 1 + i = a.head + (i + 1) by omega]
    exact h.rp (i + 1) d (by rw [hP]; simpa using hd)
  case rpi =>
    intro d hd
    exact h.rpi d (by rw [hP]; exact List.mem_cons_of_mem _ hd)
  case rc =>
    intro i c hc
    have hi : i < a.C.length := (List.getElem?_eq_some_iff.1 hc).1
    have hne : pl s (ab a.start (a.ready + i)) ≠ pl s s.head := by rw [h.hh]; exact (pl_ne h.pw (by unfold AS.ready; omega) (by unfold AS.ready; omega)).symm
    show (upd s.ring (pl s s.head) _ (pl s (ab a.start ((takeA a e P).ready + i)))).is = _ ∧ (_ → (upd s.ring (pl s s.head) _ (pl s (ab a.start ((takeA a e P).ready + i)))).n = _ ∧ (upd s.ring (pl s s.head) _ (pl s (ab a.start ((takeA a e P).ready + i)))).g = _)
    rw [hready, upd_other _ _ hne]
    exact h.rc i c hc
/-! ### Retire -/
def findA (A : List (Nat × Past)) (o : Nat) : Option Past := (A.find? (fun x => x.1 == o)).map Prod.snd
theorem A_lt {s : LS} {a : AS} {k : Nat} (h : Rel s a k) (hk : k < 1000000) {x : Nat × Past} (hx : x ∈ a.A) : x.1 < 1000000 := by
  have := h.lo x hx; have := h.bn.1; unfold AS.tail AS.ready at this; omega
theorem find_congr {α : Type} (f g : α → Bool) : ∀ l : List α, (∀ x ∈ l, f x = g x) → l.find? f = l.find? g
  | [], _ => rfl
  | x :: l, h => by
    rw [List.find?_cons, List.find?_cons, h x List.mem_cons_self, find_congr f g l (fun y hy => h y (List.mem_cons_of_mem _ hy))]
theorem look_A {s : LS} {a : AS} {k : Nat} (h : Rel s a k) (hk : k < 1000000) {q : Int} (hq : U64 q) : look s.D q = findA a.A (off a.start q) := by
  rw [h.mp.look]
  unfold lookL findA
  rw [List.find?_map, Option.map_map]
  have e : a.A.find? ((fun x : Int × Past => x.1 == q) ∘ fun x => (ab a.start x.1, x.2)) = a.A.find? (fun x => x.1 == off a.start q) := by
    refine find_congr _ _ _ (fun x hx => ?_)
    have hlt := A_lt h hk hx
    show (ab a.start x.1 == q) = (x.1 == off a.start q)
    rw [Bool.eq_iff_iff, beq_iff_eq, beq_iff_eq]
    constructor
    · intro e
      rw [← e, off_ab (by omega)]
    · intro e
      rw [e, ab_off hq]
  rw [e]
  rfl
theorem find_mem {A : List (Nat × Past)} {o : Nat} {p : Past} (h : findA A o = some p) : (o, p) ∈ A := by
  unfold findA at h
  cases hf : A.find? (fun x => x.1 == o) with
  | none => rw [hf] at h; cases h
  | some x =>
    rw [hf] at h
    have h1 := List.mem_of_find?_eq_some hf
    have h2 := List.find?_some hf
    simp only [beq_iff_eq] at h2
    cases h
    rw [← h2]
    exact h1
theorem filter_len : ∀ {A : List (Nat × Past)} {o : Nat} {p : Past}, A.Pairwise (fun x y => x.1 < y.1) → (o, p) ∈ A → (A.filter (fun x => decide (x.1 ≠ o))).length + 1 = A.length
  | [], _, _, _, h => by simp at h
  | x :: A, o, p, hs, hm => by
    rw [List.pairwise_cons] at hs
    by_cases e : x.1 = o
    · rw [List.filter_cons_of_neg (by simp [e]), List.filter_eq_self.2 (fun y hy => by have := hs.1 y hy; simp; omega)]; rfl
    · rw [List.filter_cons_of_pos (by simp [e]), List.length_cons, List.length_cons]
      have hm' : (o, p) ∈ A := by
        rcases List.mem_cons.1 hm with h1 | h1
        · exact absurd (by rw [← h1]) e
        · exact h1
      rw [filter_len hs.2 hm']
def ret2A (a : AS) (o : Nat) : AS := { a with A := a.A.filter (fun x => decide (x.1 ≠ o)) }
theorem rel_ret2 {s : LS} {a : AS} {k : Nat} (h : Rel s a k) (hk : k < 1000000) {q : Int} (hq : U64 q) {p : Past} (hf : findA a.A (off a.start q) = some p) : Rel (ret2S s q) (ret2A a (off a.start q)) k := by
  have hm := find_mem hf
  have hlen := filter_len h.srt hm
  refine { cr := h.cr, c1 := h.c1, c64 := h.c64, tw := h.tw, pw := h.pw, sz := h.sz, st := h.st, hb := h.hb, hh := h.hh, hr := h.hr, ht := h.ht, ep := h.ep, rp := h.rp, rpi := h.rpi, rc := h.rc, bn := h.bn, lf := ?lf, tot := ?tot, mp := ?mp, srt := ?srt, lo := ?lo, bh := h.bh }
  case lf =>
    show s.left + 1 = (a.credit : Int) - (((a.A.filter _).length + a.P.length + a.C.length : Nat) : Int)
    rw [h.lf]; unfold AS.total; omega
  case tot =>
    show (a.A.filter _).length + a.P.length + a.C.length ≤ a.credit
    have := h.tot; unfold AS.total at this; omega
  case mp =>
    show Lst (s.D.del (.int .u64 q)) ((a.A.filter (fun x => decide (x.1 ≠ off a.start q))).map (fun x => (ab a.start x.1, x.2)))
    have h1 := h.mp.del q
    rw [List.filter_map] at h1
    have e : a.A.filter ((fun x : Int × Past => decide (x.1 ≠ q)) ∘ fun x => (ab a.start x.1, x.2)) = a.A.filter (fun x => decide (x.1 ≠ off a.start q)) := by
      apply List.filter_congr
      intro x hx
      have hlt := A_lt h hk hx
      show decide (ab a.start x.1 ≠ q) = decide (x.1 ≠ off a.start q)
      have : (ab a.start x.1 = q) ↔ (x.1 = off a.start q) := by
        constructor
        · intro e; rw [← e, off_ab (by omega)]
        · intro e; rw [e, ab_off hq]
      simp only [ne_eq, this]
    rw [e] at h1
    exact h1
  case srt =>
    exact h.srt.sublist List.filter_sublist
  case lo =>
    intro x hx
    exact h.lo x (List.mem_filter.1 hx).1
def ret1A (a : AS) (o : Nat) (p : Past) : AS := { a with A := a.A.map (fun x => if x.1 = o then (o, ⟨p.n, p.g, true⟩) else x) }
theorem keysA (A : List (Nat × Past)) (o : Nat) (p : Past) : (A.map (fun x => if x.1 = o then (o, p) else x)).map Prod.fst = A.map Prod.fst := by
  rw [List.map_map]
  apply List.map_congr_left
  intro x _
  by_cases e : x.1 = o
  · simp [e]
  · simp [e]
theorem rel_ret1 {s : LS} {a : AS} {k : Nat} (h : Rel s a k) (hk : k < 1000000) {q : Int} (hq : U64 q) {p : Past} (hf : findA a.A (off a.start q) = some p) : Rel (ret1S s q p) (ret1A a (off a.start q) p) (k + 1) := by
  have hm := find_mem hf
  refine { cr := h.cr, c1 := h.c1, c64 := h.c64, tw := h.tw, pw := h.pw, sz := h.sz, st := h.st, hb := h.hb, hh := h.hh, hr := h.hr, ht := h.ht, ep := h.ep, rp := h.rp, rpi := h.rpi, rc := h.rc, bn := ?bn, lf := ?lf, tot := ?tot, mp := ?mp, srt := ?srt, lo := ?lo, bh := h.bh }
  case lf =>
    show s.left = (a.credit : Int) - (((a.A.map _).length + a.P.length + a.C.length : Nat) : Int)
    rw [List.length_map]; exact h.lf
  case tot =>
    show (a.A.map _).length + a.P.length + a.C.length ≤ a.credit
    rw [List.length_map]; exact h.tot
  case mp =>
    show Lst (s.D.put (.int .u64 q) (.held ⟨p.n, p.g, true⟩)) ((a.A.map _).map (fun x : Nat × Past => (ab a.start x.1, x.2)))
    have h1 := h.mp.put_old q ⟨p.n, p.g, true⟩ ⟨p, List.mem_map.2 ⟨_, hm, by rw [ab_off hq]⟩⟩
    unfold setL at h1
    rw [List.map_map] at h1 ⊢
    have e : a.A.map ((fun x : Int × Past => if x.1 = q then (q, (⟨p.n, p.g, true⟩ : Past)) else x) ∘ fun x => (ab a.start x.1, x.2)) = a.A.map ((fun x : Nat × Past => (ab a.start x.1, x.2)) ∘ fun x => if x.1 = off a.start q then (off a.start q, (⟨p.n, p.g, true⟩ : Past)) else x) := by
      apply List.map_congr_left
      intro x hx
      have hlt := A_lt h hk hx
      show (if ab a.start x.1 = q then (q, (⟨p.n, p.g, true⟩ : Past)) else (ab a.start x.1, x.2)) = (fun x : Nat × Past => (ab a.start x.1, x.2)) (if x.1 = off a.start q then (off a.start q, (⟨p.n, p.g, true⟩ : Past)) else x)
      by_cases e : x.1 = off a.start q
      · rw [if_pos e, if_pos (by rw [e, ab_off hq])]
        simp only [ab_off hq]
      · rw [if_neg e, if_neg (fun e2 => e (by rw [← e2, off_ab (by omega)]))]
    rw [e] at h1
    exact h1
  case srt =>
    have hk2 : (a.A.map (fun x => if x.1 = off a.start q then (off a.start q, (⟨p.n, p.g, true⟩ : Past)) else x)).map Prod.fst = a.A.map Prod.fst := keysA _ _ _
    have h9 : (a.A.map Prod.fst).Pairwise (fun x y : Nat => x < y) := List.pairwise_map.2 h.srt
    rw [← hk2] at h9
    exact List.pairwise_map.1 h9
  case lo =>
    intro x hx
    obtain ⟨y, hy, rfl⟩ := List.mem_map.1 hx
    by_cases e : y.1 = off a.start q
    · have := h.lo y hy
      rw [if_pos e, ← e]; exact this
    · rw [if_neg e]; exact h.lo y hy
  case bn =>
    exact ⟨Nat.le_succ_of_le h.bn.1, Nat.le_succ_of_le h.bn.2.1, Nat.succ_le_succ h.bn.2.2⟩
/-! ### Reset -/
def resetS (s : LS) : LS := { s with ring := fun _ => ⟨0, 0, 0, 0, 0⟩, base := s.tail, head := s.tail, left := s.credit, epoch := IntKind.u64.wrap (s.epoch + 1), n := 0, D := .map [] }
def resetA (a : AS) : AS := { a with base := a.tail, head := a.tail, epoch := a.epoch + 1, A := [], P := [], C := [] }
theorem rel_reset {s : LS} {a : AS} {k : Nat} (h : Rel s a k) (hk : k < 1000000) (hC : a.C = []) : Rel (resetS s) (resetA a) (k + 1) := by
  have hb := h.bn
  refine { cr := h.cr, c1 := h.c1, c64 := h.c64, tw := h.tw, pw := h.pw, sz := h.sz, st := h.st, hb := h.ht, hh := h.ht, hr := ?hr, ht := ?ht, ep := ?ep, rp := ?rp, rpi := ?rpi, rc := ?rc, bn := ?bn, lf := ?lf, tot := Nat.zero_le _, mp := Lst.nil, srt := List.Pairwise.nil, lo := ?lo, bh := Nat.le_refl _ }
  case lf =>
    show s.credit = (a.credit : Int) - ((0 : Nat) : Int)
    rw [h.cr]; omega
  case hr =>
    show s.ready = ab a.start a.tail
    rw [h.hr]; unfold AS.tail; rw [hC]; rfl
  case ht =>
    exact h.ht
  case ep =>
    show IntKind.u64.wrap (s.epoch + 1) = ((a.epoch + 1 : Nat) : Int)
    rw [h.ep, IntKind.wrap_u64]; omega
  case rp =>
    intro i e he; simp [resetA] at he
  case rpi =>
    intro e he; simp [resetA] at he
  case rc =>
    intro i c hc; simp [resetA] at hc
  case lo =>
    intro x hx; simp [resetA] at hx
  case bn =>
    exact ⟨Nat.le_succ_of_le hb.1, Nat.succ_le_succ hb.2.1, Nat.zero_le _⟩
end Go.Proofs.Ytglekbbdbnpohaa.QLn
