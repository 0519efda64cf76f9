/- Lane: PRLn, SRLn, URLn, VRLn joined. -/
import Derived.Test.YtglekbbdbnpohaaORLn
import Derived.Test.YtglekbbdbnpohaaC2Ln
/- Lane: the document's messages are the plain machine's. No program in sight. -/
namespace Go.Proofs.Ytglekbbdbnpohaa.QLn
open Go.RowKit
set_option linter.unusedVariables false
set_option linter.unusedSimpArgs false
/-! ### The messages of a state -/
def fA (st : Int) (x : Nat × Past) : Ms := ⟨ab st x.1, if x.2.held = true then 4 else 3, true, x.2.n, x.2.g, 0, 0⟩
def fP (st : Int) (o : Nat) (e : Ent) : Ms := ⟨ab st o, 2, true, e.n, e.g, e.tk, e.st⟩
def fC (st : Int) (o : Nat) (c : Clm) : Ms := ⟨ab st o, 1, c.laid, c.n, c.g, 0, 0⟩
def mP (st : Int) : Nat → List Ent → List Ms
  | _, [] => []
  | o, e :: P => fP st o e :: mP st (o + 1) P
def mC (st : Int) : Nat → List Clm → List Ms
  | _, [] => []
  | o, c :: C => fC st o c :: mC st (o + 1) C
def msgs (a : AS) : List Ms := a.A.map (fA a.start) ++ (mP a.start a.head a.P ++ mC a.start a.ready a.C)
/-- What of a message is told by nobody is struck. -/
def canon (m : Ms) : Ms := ⟨m.q, m.is, if m.is = 1 then m.laid else true, m.n, m.g, if m.is = 2 then m.x else 0, if m.is = 2 then m.y else 0⟩
structure MRel (a : AS) (r : RS) : Prop where
  cr : r.credit = a.credit
  tw : r.two = a.two
  nx : r.next = ab a.start a.tail
  ep : r.epoch = a.epoch
  ms : r.L.map canon = msgs a
structure AOk (a : AS) : Prop where
  srt : a.A.Pairwise (fun x y => x.1 < y.1)
  lo : ∀ x ∈ a.A, x.1 < a.head
  tl : a.tail < 1000000
  ep : a.epoch < 1000000
  cr : a.total ≤ a.credit ∧ a.credit ≤ 64
theorem mP_len (st : Int) : ∀ (P : List Ent) (o : Nat), (mP st o P).length = P.length
  | [], _ => rfl
  | e :: P, o => by show (mP st (o + 1) P).length + 1 = _; rw [mP_len st P]; rfl
theorem mC_len (st : Int) : ∀ (C : List Clm) (o : Nat), (mC st o C).length = C.length
  | [], _ => rfl
  | e :: P, o => by show (mC st (o + 1) P).length + 1 = _; rw [mC_len st P]; rfl
theorem mP_get (st : Int) : ∀ (P : List Ent) (o i : Nat), (mP st o P)[i]? = (P[i]?).map (fP st (o + i))
  | [], _, _ => rfl
  | e :: P, o, 0 => rfl
  | e :: P, o, i + 1 => by
    show (mP st (o + 1) P)[i]? = (P[i]?).map _
    rw [mP_get st P (o + 1) i, show o + 1 + i = o + (i + 1) by omega]
theorem mC_get (st : Int) : ∀ (P : List Clm) (o i : Nat), (mC st o P)[i]? = (P[i]?).map (fC st (o + i))
  | [], _, _ => rfl
  | e :: P, o, 0 => rfl
  | e :: P, o, i + 1 => by
    show (mC st (o + 1) P)[i]? = (P[i]?).map _
    rw [mC_get st P (o + 1) i, show o + 1 + i = o + (i + 1) by omega]
theorem mP_app (st : Int) : ∀ (P : List Ent) (o : Nat) (e : Ent), mP st o (P ++ [e]) = mP st o P ++ [fP st (o + P.length) e]
  | [], _, _ => rfl
  | x :: P, o, e => by
    show fP st o x :: mP st (o + 1) (P ++ [e]) = fP st o x :: (mP st (o + 1) P ++ [fP st (o + (P.length + 1)) e])
    rw [mP_app st P (o + 1) e, show o + 1 + P.length = o + (P.length + 1) by omega]
theorem mC_app (st : Int) : ∀ (P : List Clm) (o : Nat) (e : Clm), mC st o (P ++ [e]) = mC st o P ++ [fC st (o + P.length) e]
  | [], _, _ => rfl
  | x :: P, o, e => by
    show fC st o x :: mC st (o + 1) (P ++ [e]) = fC st o x :: (mC st (o + 1) P ++ [fC st (o + (P.length + 1)) e])
    rw [mC_app st P (o + 1) e, show o + 1 + P.length = o + (P.length + 1) by omega]
theorem mC_set (st : Int) : ∀ (P : List Clm) (o k : Nat) (e : Clm), mC st o (P.set k e) = (mC st o P).set k (fC st (o + k) e)
  | [], _, _, _ => rfl
  | x :: P, o, 0, e => rfl
  | x :: P, o, k + 1, e => by
    show fC st o x :: mC st (o + 1) (P.set k e) = fC st o x :: ((mC st (o + 1) P).set k _)
    rw [mC_set st P (o + 1) k e, show o + 1 + k = o + (k + 1) by omega]
theorem msgs_len (a : AS) : (msgs a).length = a.total := by
  unfold msgs AS.total
  rw [List.length_append, List.length_append, List.length_map, mP_len, mC_len]
  omega
theorem set_at {α : Type} (X Y : List α) (k : Nat) (v : α) : (X ++ Y).set (X.length + k) v = X ++ Y.set k v := by
  rw [List.set_append_right _ _ (by omega), Nat.add_sub_cancel_left]
/-- Where a message of the state stands. -/
theorem loc {a : AS} {i : Nat} {m : Ms} (h : (msgs a)[i]? = some m) : (∃ x, a.A[i]? = some x ∧ m = fA a.start x) ∨ (∃ j e, i = a.A.length + j ∧ a.P[j]? = some e ∧ m = fP a.start (a.head + j) e) ∨ (∃ j c, i = a.A.length + a.P.length + j ∧ a.C[j]? = some c ∧ m = fC a.start (a.ready + j) c) := by
  unfold msgs at h
  rcases Nat.lt_or_ge i a.A.length with hl | hl
  · rw [List.getElem?_append_left (by rwa [List.length_map]), List.getElem?_map] at h
    cases hx : a.A[i]? with
    | none => rw [hx] at h; cases h
    | some x => rw [hx] at h; exact Or.inl ⟨x, rfl, (Option.some.inj h).symm⟩
  · rw [List.getElem?_append_right (by rwa [List.length_map]), List.length_map] at h
    rcases Nat.lt_or_ge (i - a.A.length) a.P.length with hp | hp
    · rw [List.getElem?_append_left (by rwa [mP_len]), mP_get] at h
      cases hx : a.P[i - a.A.length]? with
      | none => rw [hx] at h; cases h
      | some x => rw [hx] at h; exact Or.inr (Or.inl ⟨i - a.A.length, x, by omega, hx, (Option.some.inj h).symm⟩)
    · rw [List.getElem?_append_right (by rwa [mP_len]), mP_len, mC_get] at h
      cases hx : a.C[i - a.A.length - a.P.length]? with
      | none => rw [hx] at h; cases h
      | some x => rw [hx] at h; exact Or.inr (Or.inr ⟨i - a.A.length - a.P.length, x, by omega, hx, (Option.some.inj h).symm⟩)
theorem atA {a : AS} {i : Nat} {x : Nat × Past} (h : a.A[i]? = some x) : (msgs a)[i]? = some (fA a.start x) := by
  unfold msgs
  rw [List.getElem?_append_left (by rw [List.length_map]; exact (List.getElem?_eq_some_iff.1 h).1), List.getElem?_map, h]
  rfl
theorem atP {a : AS} {i : Nat} {e : Ent} (h : a.P[i]? = some e) : (msgs a)[a.A.length + i]? = some (fP a.start (a.head + i) e) := by
  unfold msgs
  rw [List.getElem?_append_right (by rw [List.length_map]; omega), List.length_map, Nat.add_sub_cancel_left, List.getElem?_append_left (by rw [mP_len]; exact (List.getElem?_eq_some_iff.1 h).1), mP_get, h]
  rfl
theorem atC {a : AS} {i : Nat} {c : Clm} (h : a.C[i]? = some c) : (msgs a)[a.A.length + a.P.length + i]? = some (fC a.start (a.ready + i) c) := by
  unfold msgs
  rw [List.getElem?_append_right (by rw [List.length_map]; omega), List.length_map, show a.A.length + a.P.length + i - a.A.length = a.P.length + i by omega, List.getElem?_append_right (by rw [mP_len]; omega), mP_len, Nat.add_sub_cancel_left, mC_get, h]
  rfl
theorem MRel.get {a : AS} {r : RS} (h : MRel a r) {i : Nat} {m : Ms} (hm : r.L[i]? = some m) : (msgs a)[i]? = some (canon m) := by
  rw [← h.ms, List.getElem?_map, hm]; rfl
theorem MRel.got {a : AS} {r : RS} (h : MRel a r) {i : Nat} {m' : Ms} (hm : (msgs a)[i]? = some m') : ∃ m, r.L[i]? = some m ∧ canon m = m' := by
  rw [← h.ms, List.getElem?_map] at hm
  cases hx : r.L[i]? with
  | none => rw [hx] at hm; cases hm
  | some m => rw [hx] at hm; exact ⟨m, rfl, Option.some.inj hm⟩
theorem MRel.len {a : AS} {r : RS} (h : MRel a r) : r.L.length = a.total := by
  rw [← msgs_len, ← h.ms, List.length_map]
theorem MRel.set {a : AS} {r : RS} (h : MRel a r) (i : Nat) (m : Ms) : (r.L.set i m).map canon = (msgs a).set i (canon m) := by
  rw [List.map_set, h.ms]
theorem mrel_new (c : Nat) (two : Bool) (st : Int) (hst : U64 st) : MRel (newA c two st) ⟨c, two, st, 0, []⟩ where
  cr := rfl
  tw := rfl
  nx := by show st = ab st 0; unfold ab; unfold U64 at hst; omega
  ep := rfl
  ms := rfl
/-! ### Claim -/
theorem mrel_claim {a : AS} {r : RS} (h : MRel a r) : MRel (claimA a) (claR r) where
  cr := h.cr
  tw := h.tw
  nx := by
    show IntKind.u64.wrap (r.next + 1) = ab a.start ((claimA a).tail)
    rw [h.nx, wsucc]
    congr 1
    unfold AS.tail claimA AS.ready
    simp only [List.length_append]
    rfl
  ep := h.ep
  ms := by
    show (r.L ++ [newMs r]).map canon = a.A.map (fA a.start) ++ (mP a.start a.head a.P ++ mC a.start (claimA a).ready (a.C ++ [(⟨false, 0, 0⟩ : Clm)]))
    rw [List.map_append, h.ms, mC_app]
    unfold msgs
    rw [List.append_assoc, List.append_assoc]
    congr 3
    show [canon (newMs r)] = [fC a.start (a.ready + a.C.length) ⟨false, 0, 0⟩]
    unfold canon newMs fC
    simp only [h.nx]
    rfl
theorem claim_same {a : AS} {r : RS} (h : MRel a r) : (r.credit ≤ (r.L.length : Int)) ↔ ¬ a.total < a.credit := by
  rw [h.cr, h.len]; omega
/-! ### What find finds among the claims -/
theorem fnd_claim {a : AS} {r : RS} (h : MRel a r) (ho : AOk a) {q : Int} (hq : U64 q) {ep res : Int} (hf : Fnd r.L (CP r q ep 1) res) :
    (res = -1 ∧ ¬ (ep = a.epoch ∧ inC a (off a.start q) = true)) ∨ (∃ (k : Nat) (c : Clm) (m : Ms), res = ((a.A.length + a.P.length + k : Nat) : Int) ∧ a.C[k]? = some c ∧ r.L[a.A.length + a.P.length + k]? = some m ∧ canon m = fC a.start (a.ready + k) c ∧ (ep = a.epoch ∧ inC a (off a.start q) = true) ∧ off a.start q = a.ready + k) := by
  have htl := ho.tl
  rcases hf with ⟨i, hi, rfl, ⟨m, hm, hp⟩, _⟩ | ⟨rfl, hno⟩
  · obtain ⟨h1, h2, h3, h4⟩ := hp
    have h5 : m.is = 1 := by omega
    have hg := h.get hm
    rcases loc hg with ⟨x, _, e⟩ | ⟨j, e', _, _, e⟩ | ⟨j, c, hij, hc, e⟩
    · have := congrArg Ms.is e
      have h6 : m.is = (if x.2.held = true then 4 else 3) := this
      split at h6 <;> omega
    · have h6 : m.is = 2 := congrArg Ms.is e
      omega
    · have h6 : m.q = ab a.start (a.ready + j) := congrArg Ms.q e
      have hjl := (List.getElem?_eq_some_iff.1 hc).1
      have h7 : off a.start q = a.ready + j := by rw [← h2, h6]; exact off_ab (by unfold AS.tail at htl; omega)
      subst hij
      refine Or.inr ⟨j, c, m, rfl, hc, hm, e, ⟨by rw [h1, h.ep], ?_⟩, h7⟩
      unfold inC
      refine decide_eq_true ?_
      rw [h7]; unfold AS.tail; omega
  · refine Or.inl ⟨rfl, fun hc => ?_⟩
    obtain ⟨h1, h2⟩ := hc
    unfold inC at h2
    rw [decide_eq_true_iff] at h2
    have hlt : off a.start q - a.ready < a.C.length := by unfold AS.tail at h2; omega
    obtain ⟨m, hm, hcm⟩ := h.got (atC (List.getElem?_eq_getElem hlt))
    refine hno _ m hm ⟨by rw [h1, h.ep], ?_, ?_, ?_⟩
    · have : m.q = ab a.start (a.ready + (off a.start q - a.ready)) := congrArg Ms.q hcm
      rw [this, show a.ready + (off a.start q - a.ready) = off a.start q by omega, ab_off hq]
    · have : m.is = 1 := congrArg Ms.is hcm
      omega
    · have : m.is = 1 := congrArg Ms.is hcm
      omega
theorem mrel_lay {a : AS} {r : RS} (h : MRel a r) {k : Nat} {c : Clm} {m : Ms} (hc : canon m = fC a.start (a.ready + k) c) (n g : Int) : MRel (layA a k n g) { r with L := r.L.set (a.A.length + a.P.length + k) { m with laid := true, n := n, g := g } } where
  cr := h.cr
  tw := h.tw
  nx := by
    show r.next = ab a.start (a.ready + (a.C.set k ⟨true, n, g⟩).length)
    rw [List.length_set]; exact h.nx
  ep := h.ep
  ms := by
    show (r.L.set _ _).map canon = a.A.map (fA a.start) ++ (mP a.start a.head a.P ++ mC a.start a.ready (a.C.set k ⟨true, n, g⟩))
    rw [h.set, mC_set]
    unfold msgs
    have e1 : a.A.length + a.P.length + k = (a.A.map (fA a.start)).length + ((mP a.start a.head a.P).length + k) := by rw [List.length_map, mP_len]; omega
    rw [e1, set_at, set_at]
    congr 3
    have h1 : m.is = 1 := congrArg Ms.is hc
    have h2 : m.q = ab a.start (a.ready + k) := congrArg Ms.q hc
    unfold canon fC
    simp [h1, h2]
theorem lay_same {a : AS} {r : RS} (h : MRel a r) (ho : AOk a) {q : Int} (hq : U64 q) {ep n g res : Int} (hf : Fnd r.L (CP r q ep 1) res) :
    (res = -1 ∧ layR a q ep n g = (a, 82)) ∨ (∃ (i : Nat), res = (i : Int) ∧ (layR a q ep n g).2 = 0 ∧ ∀ m, r.L[i]? = some m → MRel (layR a q ep n g).1 { r with L := r.L.set i { m with laid := true, n := n, g := g } }) := by
  rcases fnd_claim h ho hq hf with ⟨h1, h2⟩ | ⟨k, c, m, h1, h2, h3, h4, h5, h6⟩
  · exact Or.inl ⟨h1, by unfold layR; rw [if_neg h2]⟩
  · refine Or.inr ⟨_, h1, ?_, fun m' hm' => ?_⟩
    · unfold layR; rw [if_pos h5]
    · rw [h3] at hm'
      cases hm'
      unfold layR
      rw [if_pos h5]
      show MRel (layA a (off a.start q - a.ready) n g) _
      rw [h6, Nat.add_sub_cancel_left]
      exact mrel_lay h h4 n g
end Go.Proofs.Ytglekbbdbnpohaa.QLn
/- Lane: the document's calls answer as the plain machine does. No program in sight. -/
namespace Go.Proofs.Ytglekbbdbnpohaa.QLn
open Go.RowKit
set_option linter.unusedVariables false
set_option linter.unusedSimpArgs false
/-! ### Publish -/
theorem mrel_pub {a : AS} {r : RS} (h : MRel a r) {c : Clm} {C : List Clm} {m : Ms} (hC : a.C = c :: C) (hc : canon m = fC a.start a.ready c) (x y : Int) : MRel (pubA a c C x y) { r with L := r.L.set (a.A.length + a.P.length) { m with is := 2, x := x, y := y } } where
  cr := h.cr
  tw := h.tw
  nx := by
    show r.next = ab a.start ((pubA a c C x y).ready + C.length)
    rw [h.nx]
    congr 1
    unfold AS.tail AS.ready pubA
    simp only [List.length_append]
    rw [hC]; simp; omega
  ep := h.ep
  ms := by
    show (r.L.set _ _).map canon = a.A.map (fA a.start) ++ (mP a.start a.head (a.P ++ [(⟨3, c.n, c.g, x, y⟩ : Ent)]) ++ mC a.start (pubA a c C x y).ready C)
    have e2 : (pubA a c C x y).ready = a.ready + 1 := by unfold AS.ready pubA; simp only [List.length_append]; simp; omega
    rw [h.set, mP_app, e2]
    unfold msgs
    rw [hC]
    show (a.A.map (fA a.start) ++ (mP a.start a.head a.P ++ (fC a.start a.ready c :: mC a.start (a.ready + 1) C))).set _ _ = _
    have e1 : a.A.length + a.P.length = (a.A.map (fA a.start)).length + ((mP a.start a.head a.P).length + 0) := by rw [List.length_map, mP_len]; omega
    rw [e1, set_at, set_at, List.append_assoc]
    congr 2
    have h2 : m.q = ab a.start a.ready := congrArg Ms.q hc
    have h3 : m.n = c.n := congrArg Ms.n hc
    have h4 : m.g = c.g := congrArg Ms.g hc
    show canon _ :: _ = fP a.start (a.head + a.P.length) _ :: _
    congr 1
    unfold canon fP
    simp [h2, h3, h4]
    rfl
theorem rdy_same {a : AS} {r : RS} (h : MRel a r) (ho : AOk a) {q : Int} (hq : U64 q) {ep : Int} {b : Bool} (hr : RdyD r q ep b) : b = readyR a q ep := by
  obtain ⟨res, hf, hb⟩ := hr
  have htl := ho.tl
  rcases fnd_claim h ho hq hf with ⟨h1, h2⟩ | ⟨k, c, m, h1, h2, h3, h4, h5, h6⟩
  · rcases hb with ⟨_, rfl⟩ | ⟨i, m, hi, _⟩
    · symm
      unfold readyR
      by_cases he : ep = a.epoch
      · rw [decide_eq_true he, Bool.true_and]
        by_cases h0 : off a.start q = a.ready
        · cases hC : a.C with
          | nil => simp
          | cons c C =>
            exfalso
            refine h2 ⟨he, ?_⟩
            unfold inC AS.tail
            rw [decide_eq_true_iff, h0, hC]
            simp
        · rw [decide_eq_false h0, Bool.false_and]
      · rw [decide_eq_false he, Bool.false_and]
    · omega
  · rcases hb with ⟨h7, _⟩ | ⟨i, m', hi, hm', hb⟩
    · omega
    · have hik : i = a.A.length + a.P.length + k := by omega
      subst hik
      rw [h3] at hm'
      cases hm'
      have hl : m.laid = c.laid := by
        have h7 : m.is = 1 := congrArg Ms.is h4
        have h8 : (canon m).laid = c.laid := congrArg Ms.laid h4
        unfold canon at h8
        simpa [h7] using h8
      unfold readyR
      rw [decide_eq_true h5.1, Bool.true_and, h6]
      rcases hb with ⟨h7, rfl⟩ | ⟨h7, hb⟩
      · by_cases hk : k = 0
        · subst hk
          cases hC : a.C with
          | nil => rw [hC] at h2; simp at h2
          | cons c0 C =>
            rw [hC] at h2
            have : c0 = c := by simpa using h2
            subst this
            rw [decide_eq_true (by omega), Bool.true_and]
            simp only
            rw [← hl, h7]
        · rw [decide_eq_false (by omega), Bool.false_and]
      · by_cases hk : k = 0
        · subst hk
          rcases hb with ⟨_, k', m', hk', hm', h8⟩ | ⟨rfl, _⟩
          · exfalso
            rcases loc (h.get hm') with ⟨x, _, e⟩ | ⟨j, e', _, _, e⟩ | ⟨j, c', hij, _, e⟩
            · have h9 : m'.is = (if x.2.held = true then 4 else 3) := congrArg Ms.is e
              split at h9 <;> omega
            · have h9 : m'.is = 2 := congrArg Ms.is e
              omega
            · omega
          · cases hC : a.C with
            | nil => rw [hC] at h2; simp at h2
            | cons c0 C =>
              rw [hC] at h2
              have : c0 = c := by simpa using h2
              subst this
              rw [decide_eq_true (by omega), Bool.true_and]
              simp only
              rw [← hl, h7]
        · rw [decide_eq_false (by omega), Bool.false_and]
          rcases hb with ⟨rfl, _⟩ | ⟨_, hno⟩
          · rfl
          · exfalso
            have hkl := (List.getElem?_eq_some_iff.1 h2).1
            obtain ⟨m', hm', hcm⟩ := h.got (atC (List.getElem?_eq_getElem (show 0 < a.C.length by omega)))
            exact hno _ m' (by omega) hm' (congrArg Ms.is hcm)
theorem pub_same {a : AS} {r : RS} (h : MRel a r) (ho : AOk a) {q : Int} (hq : U64 q) {ep x y : Int} {rb B : Nat} {v : Value} {w w' : World} {e : Ending} (hp : PubE r q ep x y rb B v w e w') :
    e = .returned (.int .i64 (pubR a q ep x y).2) ∧ ∃ r' v', Rb w rb B r' v' [] w' ∧ MRel (pubR a q ep x y).1 r' := by
  obtain ⟨res, hf, hb⟩ := hp
  rcases fnd_claim h ho hq hf with ⟨h1, h2⟩ | ⟨k, c, m, h1, h2, h3, h4, h5, h6⟩
  · rcases hb with ⟨_, he, hw⟩ | ⟨i, m, hi, _⟩
    · unfold pubR
      rw [if_neg h2]
      exact ⟨he, r, v, hw, h⟩
    · omega
  · have hl : m.laid = c.laid := by
      have h7 : m.is = 1 := congrArg Ms.is h4
      have h8 : (canon m).laid = c.laid := congrArg Ms.laid h4
      unfold canon at h8
      simpa [h7] using h8
    have hk : off a.start q - a.ready = k := by omega
    rcases hb with ⟨h7, _⟩ | ⟨i, m', hi, hm', hb⟩
    · omega
    · have hik : i = a.A.length + a.P.length + k := by omega
      subst hik
      rw [h3] at hm'
      cases hm'
      unfold pubR
      rw [if_pos h5, hk, h2]
      simp only
      rcases hb with ⟨h7, he, hw⟩ | ⟨h7, b, hr, hb⟩
      · rw [if_pos (by rw [← hl, h7])]
        exact ⟨he, r, v, hw, h⟩
      · rw [if_neg (by rw [← hl, h7]; simp)]
        have hbr := rdy_same h ho hq hr
        have hrd : readyR a q ep = decide (off a.start q = a.ready) := by
          unfold readyR
          rw [decide_eq_true h5.1, Bool.true_and]
          by_cases h0 : off a.start q = a.ready
          · rw [decide_eq_true h0, Bool.true_and]
            have : k = 0 := by omega
            subst this
            cases hC : a.C with
            | nil => rw [hC] at h2; simp at h2
            | cons c0 C =>
              rw [hC] at h2
              have : c0 = c := by simpa using h2
              subst this
              simp only
              rw [← hl, h7]
          · rw [decide_eq_false h0, Bool.false_and]
        rw [hrd] at hbr
        rcases hb with ⟨rfl, he, hw⟩ | ⟨rfl, he, v', hw⟩
        · have h0 : off a.start q ≠ a.ready := of_decide_eq_false hbr.symm
          rw [if_pos h0]
          exact ⟨he, r, v, hw, h⟩
        · have h0 : off a.start q = a.ready := of_decide_eq_true hbr.symm
          rw [if_neg (by simp [h0])]
          have : k = 0 := by omega
          subst this
          refine ⟨he, _, v', hw, ?_⟩
          cases hC : a.C with
          | nil => rw [hC] at h2; simp at h2
          | cons c0 C =>
            rw [hC] at h2
            have : c0 = c := by simpa using h2
            subst this
            exact mrel_pub h hC h4 x y
/-! ### Take -/
theorem fnd_pub {a : AS} {r : RS} (h : MRel a r) {res : Int} (hf : Fnd r.L (fun m => m.is = 2) res) :
    (res = -1 ∧ a.P = []) ∨ (∃ (e : Ent) (P : List Ent) (m : Ms), res = (a.A.length : Int) ∧ a.P = e :: P ∧ r.L[a.A.length]? = some m ∧ canon m = fP a.start a.head e) := by
  rcases hf with ⟨i, hi, rfl, ⟨m, hm, hp⟩, hmin⟩ | ⟨rfl, hno⟩
  · rcases loc (h.get hm) with ⟨x, _, e⟩ | ⟨j, e', hij, he', e⟩ | ⟨j, c', hij, _, e⟩
    · have h9 : m.is = (if x.2.held = true then 4 else 3) := congrArg Ms.is e
      split at h9 <;> omega
    · cases hP : a.P with
      | nil => rw [hP] at he'; simp at he'
      | cons e0 P =>
        obtain ⟨m0, hm0, hc0⟩ := h.got (atP (i := 0) (e := e0) (by rw [hP]; rfl))
        rw [Nat.add_zero] at hm0
        have hj : j = 0 := by
          rcases Nat.eq_zero_or_pos j with hj | hj
          · exact hj
          · exact absurd (congrArg Ms.is hc0) (hmin _ m0 (by omega) hm0)
        subst hj
        refine Or.inr ⟨e0, P, m0, by omega, rfl, hm0, ?_⟩
        rw [hc0, Nat.add_zero]
    · have h9 : m.is = 1 := congrArg Ms.is e
      omega
  · refine Or.inl ⟨rfl, ?_⟩
    cases hP : a.P with
    | nil => rfl
    | cons e0 P =>
      obtain ⟨m0, hm0, hc0⟩ := h.got (atP (i := 0) (e := e0) (by rw [hP]; rfl))
      exact absurd (congrArg Ms.is hc0) (hno _ m0 hm0)
theorem mrel_take {a : AS} {r : RS} (h : MRel a r) {e : Ent} {P : List Ent} {m : Ms} (hP : a.P = e :: P) (hc : canon m = fP a.start a.head e) : MRel (takeA a e P) { r with L := r.L.set a.A.length { m with is := 3 } } where
  cr := h.cr
  tw := h.tw
  nx := by
    show r.next = ab a.start ((takeA a e P).ready + a.C.length)
    rw [h.nx]
    congr 1
    unfold AS.tail AS.ready takeA
    rw [hP]; simp; omega
  ep := h.ep
  ms := by
    have e2 : (takeA a e P).ready = a.ready := by unfold AS.ready takeA; rw [hP]; simp; omega
    show (r.L.set _ _).map canon = (a.A ++ [(a.head, (⟨e.n, e.g, false⟩ : Past))]).map (fA a.start) ++ (mP a.start (a.head + 1) P ++ mC a.start (takeA a e P).ready a.C)
    rw [h.set, e2]
    unfold msgs
    rw [hP, List.map_append, List.append_assoc]
    show (a.A.map (fA a.start) ++ (fP a.start a.head e :: mP a.start (a.head + 1) P ++ mC a.start a.ready a.C)).set _ _ = _
    have e1 : a.A.length = (a.A.map (fA a.start)).length + 0 := by rw [List.length_map]; omega
    rw [e1, set_at]
    congr 1
    have h2 : m.q = ab a.start a.head := congrArg Ms.q hc
    have h3 : m.n = e.n := congrArg Ms.n hc
    have h4 : m.g = e.g := congrArg Ms.g hc
    show canon _ :: _ = fA a.start _ :: _
    congr 1
    unfold canon fA
    simp [h2, h3, h4]
theorem take_same {a : AS} {r : RS} (h : MRel a r) {rb B : Nat} {v : Value} {w w' : World} {e : Ending} (hp : TakE r rb B v w e w') :
    e = .returned (takeR a).2 ∧ ∃ r' v', Rb w rb B r' v' [] w' ∧ MRel (takeR a).1 r' := by
  obtain ⟨res, hf, hb⟩ := hp
  rcases fnd_pub h hf with ⟨h1, h2⟩ | ⟨e0, P, m, h1, h2, h3, h4⟩
  · rcases hb with ⟨_, he, hw⟩ | ⟨i, m, v', hi, _⟩
    · rw [q_take0 h2]
      exact ⟨he, r, v, hw, h⟩
    · omega
  · rcases hb with ⟨h7, _⟩ | ⟨i, m', v', hi, hm', he, hw⟩
    · omega
    · have : i = a.A.length := by omega
      subst this
      rw [h3] at hm'
      cases hm'
      rw [(q_take h2).1]
      have e1 : m.q = ab a.start a.head := congrArg Ms.q h4
      have e2 : m.n = e0.n := congrArg Ms.n h4
      have e3 : m.g = e0.g := congrArg Ms.g h4
      rw [e1, e2, e3, h.ep] at he
      exact ⟨he, _, v', hw, mrel_take h h2 h4⟩
/-! ### First -/
theorem first_same {a : AS} {r : RS} (h : MRel a r) {rb B : Nat} {v : Value} {w w' : World} {e : Ending} (hp : FirE r rb B v w e w') :
    e = .returned (firstR a) ∧ ∃ r' v', Rb w rb B r' v' [] w' ∧ MRel a r' := by
  obtain ⟨res, hf, hb⟩ := hp
  rcases fnd_pub h hf with ⟨h1, h2⟩ | ⟨e0, P, m, h1, h2, h3, h4⟩
  · rcases hb with ⟨_, he, hw⟩ | ⟨i, m, hi, _⟩
    · refine ⟨?_, r, v, hw, h⟩
      rw [he]; unfold firstR; rw [h2]
    · omega
  · rcases hb with ⟨h7, _⟩ | ⟨i, m', hi, hm', he, hw⟩
    · omega
    · have : i = a.A.length := by omega
      subst this
      rw [h3] at hm'
      cases hm'
      refine ⟨?_, r, v, hw, h⟩
      have e1 : m.q = ab a.start a.head := congrArg Ms.q h4
      have e5 : m.is = 2 := congrArg Ms.is h4
      have e2 : (canon m).x = e0.tk := congrArg Ms.x h4
      have e3 : (canon m).y = e0.st := congrArg Ms.y h4
      unfold canon at e2 e3
      simp only [e5, if_true] at e2 e3
      rw [he]; unfold firstR; rw [h2, e1, e2, e3, h.ep]
end Go.Proofs.Ytglekbbdbnpohaa.QLn
/- Lane: the document's Retire, Reset, State, Claim answer as the plain machine does. No program in sight. -/
namespace Go.Proofs.Ytglekbbdbnpohaa.QLn
open Go.RowKit
set_option linter.unusedVariables false
set_option linter.unusedSimpArgs false
/-! ### Retire -/
abbrev Srt (A : List (Nat × Past)) : Prop := A.Pairwise (fun x y => x.1 < y.1)
theorem srt_lt {A : List (Nat × Past)} {y x : Nat × Past} (h : Srt (y :: A)) {i : Nat} (hi : A[i]? = some x) : y.1 < x.1 :=
  (List.pairwise_cons.1 h).1 x (List.mem_of_getElem? hi)
theorem find_at : ∀ {A : List (Nat × Past)} {i : Nat} {x : Nat × Past}, Srt A → A[i]? = some x → findA A x.1 = some x.2
  | [], _, _, _, h => by simp at h
  | y :: A, 0, x, hs, h => by
    simp at h
    subst h
    unfold findA
    rw [List.find?_cons_of_pos (by simp)]
    rfl
  | y :: A, i + 1, x, hs, h => by
    have h1 : A[i]? = some x := by simpa using h
    have hlt := srt_lt hs h1
    have ih := find_at (List.pairwise_cons.1 hs).2 h1
    unfold findA at ih ⊢
    rw [List.find?_cons_of_neg (by simp; omega)]
    exact ih
theorem map_at : ∀ {A : List (Nat × Past)} {i : Nat} {x : Nat × Past} (p : Past), Srt A → A[i]? = some x → A.map (fun y => if y.1 = x.1 then (x.1, p) else y) = A.set i (x.1, p)
  | [], _, _, _, _, h => by simp at h
  | y :: A, 0, x, p, hs, h => by
    simp at h
    subst h
    rw [List.map_cons, if_pos rfl, List.set_cons_zero]
    congr 1
    refine (List.map_congr_left (fun z hz => ?_)).trans (List.map_id _)
    have := (List.pairwise_cons.1 hs).1 z hz
    rw [if_neg (by omega)]
    rfl
  | y :: A, i + 1, x, p, hs, h => by
    have h1 : A[i]? = some x := by simpa using h
    have hlt := srt_lt hs h1
    rw [List.map_cons, if_neg (by omega), List.set_cons_succ, map_at p (List.pairwise_cons.1 hs).2 h1]
theorem filter_at : ∀ {A : List (Nat × Past)} {i : Nat} {x : Nat × Past}, Srt A → A[i]? = some x → A.filter (fun y => decide (y.1 ≠ x.1)) = A.take i ++ A.drop (i + 1)
  | [], _, _, _, h => by simp at h
  | y :: A, 0, x, hs, h => by
    simp at h
    subst h
    rw [List.filter_cons_of_neg (by simp)]
    show _ = A
    refine List.filter_eq_self.2 (fun z hz => ?_)
    have := (List.pairwise_cons.1 hs).1 z hz
    exact decide_eq_true (by omega)
  | y :: A, i + 1, x, hs, h => by
    have h1 : A[i]? = some x := by simpa using h
    have hlt := srt_lt hs h1
    rw [List.filter_cons_of_pos (p := fun y : Nat × Past => decide (y.1 ≠ x.1)) (decide_eq_true (by omega)), filter_at (List.pairwise_cons.1 hs).2 h1]
    rfl
theorem fnd_taken {a : AS} {r : RS} (h : MRel a r) (ho : AOk a) {q : Int} (hq : U64 q) {ep res : Int} (hep : ep = a.epoch) (hf : Fnd r.L (CP r q ep 3) res) :
    (res = -1 ∧ (findA a.A (off a.start q) = none ∨ ∃ p, findA a.A (off a.start q) = some p ∧ p.held = true)) ∨ (∃ (i : Nat) (x : Nat × Past) (m : Ms), res = (i : Int) ∧ a.A[i]? = some x ∧ r.L[i]? = some m ∧ canon m = fA a.start x ∧ x.1 = off a.start q ∧ x.2.held = false ∧ findA a.A (off a.start q) = some x.2) := by
  have htl := ho.tl
  have hhd : a.head ≤ a.tail := by unfold AS.tail AS.ready; omega
  rcases hf with ⟨i, hi, rfl, ⟨m, hm, hp⟩, _⟩ | ⟨rfl, hno⟩
  · obtain ⟨h1, h2, h3, h4⟩ := hp
    have h5 : m.is = 3 := by omega
    rcases loc (h.get hm) with ⟨x, hx, e⟩ | ⟨j, e', _, _, e⟩ | ⟨j, c, _, _, e⟩
    · have h6 : m.is = (if x.2.held = true then 4 else 3) := congrArg Ms.is e
      have h7 : m.q = ab a.start x.1 := congrArg Ms.q e
      have hh : x.2.held = false := by
        cases hb : x.2.held with
        | false => rfl
        | true => rw [hb] at h6; simp at h6; omega
      have hxl := ho.lo x (List.mem_of_getElem? hx)
      have ho1 : x.1 = off a.start q := by rw [← h2, h7]; exact (off_ab (by omega)).symm
      exact Or.inr ⟨i, x, m, rfl, hx, hm, e, ho1, hh, by rw [← ho1]; exact find_at ho.srt hx⟩
    · have h6 : m.is = 2 := congrArg Ms.is e
      omega
    · have h6 : m.is = 1 := congrArg Ms.is e
      omega
  · refine Or.inl ⟨rfl, ?_⟩
    cases hfa : findA a.A (off a.start q) with
    | none => exact Or.inl rfl
    | some p =>
      refine Or.inr ⟨p, rfl, ?_⟩
      cases hb : p.held with
      | true => rfl
      | false =>
        exfalso
        obtain ⟨i, hi⟩ := List.getElem?_of_mem (find_mem hfa)
        obtain ⟨m, hm, hc⟩ := h.got (atA hi)
        have h6 : m.is = (if p.held = true then 4 else 3) := congrArg Ms.is hc
        rw [hb] at h6
        simp at h6
        have h7 : m.q = ab a.start (off a.start q) := congrArg Ms.q hc
        rw [ab_off hq] at h7
        exact hno i m hm ⟨by rw [hep, h.ep], h7, by omega, by omega⟩
theorem mrel_ret1 {a : AS} {r : RS} (h : MRel a r) (ho : AOk a) {i : Nat} {x : Nat × Past} {m : Ms} (hx : a.A[i]? = some x) (hc : canon m = fA a.start x) : MRel (ret1A a x.1 x.2) { r with L := r.L.set i { m with is := 4 } } where
  cr := h.cr
  tw := h.tw
  nx := h.nx
  ep := h.ep
  ms := by
    show (r.L.set _ _).map canon = (a.A.map (fun y => if y.1 = x.1 then (x.1, (⟨x.2.n, x.2.g, true⟩ : Past)) else y)).map (fA a.start) ++ (mP a.start a.head a.P ++ mC a.start a.ready a.C)
    rw [h.set, map_at _ ho.srt hx, List.map_set]
    unfold msgs
    rw [List.set_append_left _ _ (by rw [List.length_map]; exact (List.getElem?_eq_some_iff.1 hx).1)]
    congr 2
    have h2 : m.q = ab a.start x.1 := congrArg Ms.q hc
    have h3 : m.n = x.2.n := congrArg Ms.n hc
    have h4 : m.g = x.2.g := congrArg Ms.g hc
    unfold canon fA
    simp [h2, h3, h4]
theorem mrel_ret2 {a : AS} {r : RS} (h : MRel a r) (ho : AOk a) {i : Nat} {x : Nat × Past} (hx : a.A[i]? = some x) : MRel (ret2A a x.1) { r with L := r.L.take i ++ r.L.drop (i + 1) } where
  cr := h.cr
  tw := h.tw
  nx := h.nx
  ep := h.ep
  ms := by
    show (r.L.take i ++ r.L.drop (i + 1)).map canon = (a.A.filter (fun y => decide (y.1 ≠ x.1))).map (fA a.start) ++ (mP a.start a.head a.P ++ mC a.start a.ready a.C)
    have hi := (List.getElem?_eq_some_iff.1 hx).1
    rw [filter_at ho.srt hx, List.map_append, List.map_take, List.map_drop, h.ms, List.map_append, List.map_take, List.map_drop]
    unfold msgs
    rw [List.take_append_of_le_length (by rw [List.length_map]; omega), List.drop_append_of_le_length (by rw [List.length_map]; omega), List.append_assoc]
theorem ret_same {a : AS} {r : RS} (h : MRel a r) (ho : AOk a) {q : Int} (hq : U64 q) {ep : Int} {rb B : Nat} {v : Value} {w w' : World} {e : Ending} (hp : RetE r q ep rb B v w e w') :
    e = .returned (retR a q ep).2 ∧ ∃ r' v', Rb w rb B r' v' [] w' ∧ MRel (retR a q ep).1 r' := by
  rcases hp with ⟨h1, he, hw⟩ | ⟨h1, res, hf, hb⟩
  · unfold retR
    rw [if_pos (by rw [← h.ep]; exact h1)]
    exact ⟨he, r, v, hw, h⟩
  · have hep : ep = a.epoch := by rw [h1, h.ep]
    unfold retR
    rw [if_neg (by simp [hep])]
    rcases fnd_taken h ho hq hep hf with ⟨h2, h3⟩ | ⟨i, x, m, h2, h3, h4, h5, h6, h7, h8⟩
    · rcases hb with ⟨_, he, hw⟩ | ⟨i, m, v', hi, _⟩
      · rcases h3 with h3 | ⟨p, h3, h4⟩
        · rw [h3]; exact ⟨he, r, v, hw, h⟩
        · rw [h3]; simp only; rw [if_pos h4]; exact ⟨he, r, v, hw, h⟩
      · omega
    · rcases hb with ⟨h9, _⟩ | ⟨i', m', v', hi, hm', hb⟩
      · omega
      · have : i' = i := by omega
        subst this
        rw [h4] at hm'
        cases hm'
        rw [h8]
        simp only
        rw [if_neg (by rw [h7]; simp)]
        have e2 : m.n = x.2.n := congrArg Ms.n h5
        have e3 : m.g = x.2.g := congrArg Ms.g h5
        rcases hb with ⟨h9, he, hw⟩ | ⟨h9, he, hw⟩
        · rw [if_pos (by rw [← h.tw]; exact h9)]
          rw [e2, e3] at he
          refine ⟨he, _, v', hw, ?_⟩
          rw [← h6]
          exact mrel_ret2 h ho h3
        · rw [if_neg (by rw [← h.tw, h9]; simp)]
          refine ⟨he, _, v', hw, ?_⟩
          rw [← h6]
          exact mrel_ret1 h ho h3 h5
/-! ### Claim -/
theorem cla_same {a : AS} {r : RS} (h : MRel a r) {rb B : Nat} {v : Value} {w w' : World} {e : Ending} (hp : ClaE r rb B v w e w') :
    e = .returned (claimR a).2 ∧ ∃ r' v', Rb w rb B r' v' [] w' ∧ MRel (claimR a).1 r' := by
  unfold claimR
  rcases hp with ⟨h1, he, hw⟩ | ⟨h1, he, v', hw⟩
  · rw [if_neg ((claim_same h).1 h1)]
    exact ⟨he, r, v, hw, h⟩
  · rw [if_pos (Decidable.byContradiction (fun hn => h1 ((claim_same h).2 hn)))]
    rw [h.nx, h.ep] at he
    exact ⟨he, _, v', hw, mrel_claim h⟩
/-! ### Reset -/
theorem slM_canon (l : List Ms) : slM (l.map canon) = slM l := by
  unfold slM
  rw [List.map_map]
  rfl
theorem slM_msgs {a : AS} (hC : a.C = []) : slM (msgs a) = slotsA a := by
  have hp : ∀ (P : List Ent) (o : Nat), slM (mP a.start o P) = P.map (fun e => (e.n, e.g)) := by
    intro P
    induction P with
    | nil => intro o; rfl
    | cons e P ih => intro o; show (e.n, e.g) :: slM (mP a.start (o + 1) P) = _; rw [ih]; rfl
  unfold msgs slotsA
  rw [hC]
  show slM (a.A.map (fA a.start) ++ (mP a.start a.head a.P ++ [])) = _
  rw [List.append_nil]
  unfold slM at hp ⊢
  rw [List.map_append, hp, List.map_map]
  rfl
theorem row_slots {w : World} {B c : Nat} {A : Option Addr} {l : List (Int × Int)} (h : RowQ w B 36 2 (.slice A l.length c) l.length (fQ l)) : SlotsAt w A l := by
  intro i p hp
  obtain ⟨e1, e2⟩ := fQ_get l i p hp
  obtain ⟨ad, h1, h2⟩ := h.src _ _ e1
  obtain ⟨ad', h3, h4⟩ := h.src _ _ e2
  rw [h1] at h3
  cases h3
  exact ⟨ad, h1, h2, h4⟩
theorem reset_same {a : AS} {r : RS} (h : MRel a r) (ho : AOk a) {rb B : Nat} {v : Value} {w w' : World} {e : Ending} (hp : RstE r rb B v w e w') :
    ∃ A c, e = .returned (.tuple #[.slice A (resetL a).length c, .int .i64 (resetR a).2]) ∧ (resetL a).length ≤ c ∧ SlotsAt w' A (resetL a) ∧ ∃ r' v', Rb w rb B r' v' [] w' ∧ MRel (resetR a).1 r' := by
  rcases hp with ⟨⟨k, m, hm, hi⟩, he, hw⟩ | ⟨hno, u, v', he, hrow, hw⟩
  · have hC : a.C ≠ [] := by
      rcases loc (h.get hm) with ⟨x, _, e⟩ | ⟨j, e', _, _, e⟩ | ⟨j, c, _, hc, e⟩
      · have h9 : m.is = (if x.2.held = true then 4 else 3) := congrArg Ms.is e
        split at h9 <;> omega
      · have h9 : m.is = 2 := congrArg Ms.is e
        omega
      · intro h0; rw [h0] at hc; simp at hc
    unfold resetL resetR
    rw [if_neg hC, if_neg hC]
    exact ⟨none, 0, he, Nat.le_refl _, SlotsAt.nil _ _, r, v, hw, h⟩
  · have hC : a.C = [] := by
      cases hC : a.C with
      | nil => rfl
      | cons c C =>
        obtain ⟨m, hm, hc⟩ := h.got (atC (i := 0) (c := c) (by rw [hC]; rfl))
        exact absurd (congrArg Ms.is hc) (hno _ m hm)
    have hs : slM r.L = slotsA a := by rw [← slM_msgs hC, ← h.ms, slM_canon]
    obtain ⟨A, c, rfl, hc⟩ := hrow.form
    rw [hs] at hrow he hc
    unfold resetL resetR
    rw [if_pos hC, if_pos hC]
    refine ⟨A, c, he, hc, row_slots hrow, _, v', hw, ?_⟩
    refine ⟨h.cr, h.tw, ?_, ?_, ?_⟩
    · show r.next = ab a.start ((resetA a).tail)
      rw [h.nx]
      congr 1
    · show IntKind.u64.wrap (r.epoch + 1) = ((a.epoch + 1 : Nat) : Int)
      rw [h.ep, IntKind.wrap_u64]; have := ho.ep; omega
    · rfl
/-! ### State -/
theorem cI_canon (k : Int) (l : List Ms) : cI k (l.map canon) = cI k l := by
  unfold cI
  rw [List.filter_map, List.length_map]
  rfl
theorem cO_canon (l : List Ms) : cO (l.map canon) = cO l := by
  unfold cO
  rw [List.filter_map, List.length_map]
  rfl
theorem cI_append (k : Int) (x y : List Ms) : cI k (x ++ y) = cI k x + cI k y := by unfold cI; rw [List.filter_append, List.length_append]
theorem cO_append (x y : List Ms) : cO (x ++ y) = cO x + cO y := by unfold cO; rw [List.filter_append, List.length_append]
theorem cI_all {k : Int} {l : List Ms} (h : ∀ m ∈ l, m.is = k) : cI k l = l.length := by
  unfold cI; rw [List.filter_eq_self.2 (fun m hm => decide_eq_true (h m hm))]
theorem cI_none {k k' : Int} {l : List Ms} (h : ∀ m ∈ l, m.is = k') (hne : k' ≠ k) : cI k l = 0 := by
  unfold cI; rw [List.filter_eq_nil_iff.2 (fun m hm => by rw [h m hm]; simp [hne])]; rfl
theorem cO_none {k' : Int} {l : List Ms} (h : ∀ m ∈ l, m.is = k') (hk : k' = 1 ∨ k' = 2) : cO l = 0 := by
  unfold cO; rw [List.filter_eq_nil_iff.2 (fun m hm => by rw [h m hm]; rcases hk with rfl | rfl <;> simp)]; rfl
theorem mP_is (st : Int) : ∀ (P : List Ent) (o : Nat), ∀ m ∈ mP st o P, m.is = 2
  | [], _, m, h => by cases h
  | e :: P, o, m, h => by
    rcases List.mem_cons.1 h with rfl | h
    · rfl
    · exact mP_is st P (o + 1) m h
theorem mC_is (st : Int) : ∀ (P : List Clm) (o : Nat), ∀ m ∈ mC st o P, m.is = 1
  | [], _, m, h => by cases h
  | e :: P, o, m, h => by
    rcases List.mem_cons.1 h with rfl | h
    · rfl
    · exact mC_is st P (o + 1) m h
theorem mA_cnt (st : Int) : ∀ (A : List (Nat × Past)), cI 1 (A.map (fA st)) = 0 ∧ cI 2 (A.map (fA st)) = 0 ∧ cI 3 (A.map (fA st)) = (A.filter (fun x => x.2.held == false)).length ∧ cO (A.map (fA st)) = (A.filter (fun x => x.2.held == true)).length
  | [] => ⟨rfl, rfl, rfl, rfl⟩
  | x :: A => by
    obtain ⟨h1, h2, h3, h4⟩ := mA_cnt st A
    unfold cI cO at *
    rw [List.map_cons]
    cases hb : x.2.held
    · have e : (fA st x).is = 3 := by unfold fA; simp [hb]
      refine ⟨?_, ?_, ?_, ?_⟩
      · rw [List.filter_cons_of_neg (by simp [e])]; exact h1
      · rw [List.filter_cons_of_neg (by simp [e])]; exact h2
      · rw [List.filter_cons_of_pos (by simp [e]), List.filter_cons_of_pos (by simp [hb]), List.length_cons, List.length_cons, h3]
      · rw [List.filter_cons_of_neg (by simp [e]), List.filter_cons_of_neg (by simp [hb])]; exact h4
    · have e : (fA st x).is = 4 := by unfold fA; simp [hb]
      refine ⟨?_, ?_, ?_, ?_⟩
      · rw [List.filter_cons_of_neg (by simp [e])]; exact h1
      · rw [List.filter_cons_of_neg (by simp [e])]; exact h2
      · rw [List.filter_cons_of_neg (by simp [e]), List.filter_cons_of_neg (by simp [hb])]; exact h3
      · rw [List.filter_cons_of_pos (by simp [e]), List.filter_cons_of_pos (by simp [hb]), List.length_cons, List.length_cons, h4]
theorem state_same {a : AS} {r : RS} (h : MRel a r) : stM r r.L = stateR a := by
  obtain ⟨h1, h2, h3, h4⟩ := mA_cnt a.start a.A
  have hP := mP_is a.start a.P a.head
  have hC := mC_is a.start a.C a.ready
  have e1 : cI 1 r.L = a.C.length := by
    rw [← cI_canon, h.ms]; unfold msgs
    rw [cI_append, cI_append, h1, cI_none hP (by decide), cI_all hC, mC_len]; omega
  have e2 : cI 2 r.L = a.P.length := by
    rw [← cI_canon, h.ms]; unfold msgs
    rw [cI_append, cI_append, h2, cI_all hP, cI_none hC (by decide), mP_len]; omega
  have e3 : cI 3 r.L = heldN a false := by
    rw [← cI_canon, h.ms]; unfold msgs
    rw [cI_append, cI_append, h3, cI_none hP (by decide), cI_none hC (by decide)]; rfl
  have e4 : cO r.L = heldN a true := by
    rw [← cO_canon, h.ms]; unfold msgs
    rw [cO_append, cO_append, h4, cO_none hP (Or.inr rfl), cO_none hC (Or.inl rfl)]; rfl
  unfold stM stateR
  rw [e1, e2, e3, e4, h.cr, h.ep, h.len]
end Go.Proofs.Ytglekbbdbnpohaa.QLn
/- Lane: the document's calls against the plain machine; what LaneRuns knows: a lane and the document's one. -/
namespace Go.Proofs.Ytglekbbdbnpohaa.QLn
open Go.RowKit Go.Proofs.YtglekbbdbnpohaaW.PrintWords Go.Proofs.YtglekbbdbnpohaaW.PrintLast Go.Proofs.YtglekbbdbnpohaaW.PrintMore
set_option linter.unusedVariables false
set_option linter.unusedSimpArgs false
theorem addR_blk (ad : Addr) (j : Nat) : (ad.add j).block = ad.block := by unfold Addr.add; split <;> rfl
theorem SlotsAt.farR {w w' : World} {A : Option Addr} {l : List (Int × Int)} {b m n0 : Nat} (h : SlotsAt w A l) (hb : ∀ ad, A = some ad → n0 ≤ ad.block) (h1 : b < n0) (h2 : m < n0) (j : Far b m w w') : SlotsAt w' A l := fun i p hp => by
  obtain ⟨ad, e, q1, q2⟩ := h i p hp
  have hn := hb ad e
  have hlt : ad.block < w.heap.size := by
    rcases Nat.lt_or_ge ad.block w.heap.size with h | h
    · exact h
    · exfalso
      have : w.heap[(ad.add (i * 2)).block]? = none := Array.getElem?_eq_none (by rw [addR_blk]; exact h)
      simp only [World.cell?, this] at q1
      cases q1
  have hk : w'.heap[ad.block]? = w.heap[ad.block]? := j.block ad.block hlt (by omega) (by omega)
  refine ⟨ad, e, ?_, ?_⟩
  · rw [← q1]; simp only [World.cell?]; rw [addR_blk, hk]
  · rw [← q2]; simp only [World.cell?]; rw [addR_blk, hk]
theorem LnA.ok {w : World} {b m k : Nat} {a : AS} (h : LnA w b m a k) (hk : k < 1000000) : AOk a := by
  obtain ⟨s, _, _, hr⟩ := h
  have := hr.bn
  exact ⟨hr.srt, fun x hx => (hr.lo x hx).2, by omega, by omega, hr.tot, hr.c64⟩
/-- The document's lane at rb is the plain machine's state a. -/
def RA (w : World) (rb B : Nat) (a : AS) : Prop := ∃ r v, RL w rb B r v ∧ MRel a r
section
variable {w w' : World} {rb B : Nat} {a : AS}
theorem RA.below (h : RA w rb B a) (j : Below w.heap.size w w') : RA w' rb B a := by
  obtain ⟨r, v, h1, h2⟩ := h
  exact ⟨r, v, h1.below j, h2⟩
theorem RA.far {b m : Nat} (h : RA w rb B a) (j : Far b m w w') (h1 : rb ≠ b) (h2 : rb ≠ m) (h3 : b < B) (h4 : m < B) : RA w' rb B a := by
  obtain ⟨r, v, h5, h6⟩ := h
  exact ⟨r, v, h5.far j h1 h2 h3 h4, h6⟩
theorem RA.lt (h : RA w rb B a) : rb < w.heap.size := by
  obtain ⟨r, v, h5, h6⟩ := h
  exact h5.rb
theorem R_new (c : Int) (two : Bool) (st : Int) (h1 : 1 ≤ c) (h2 : c ≤ 64) (hst : U64 st) (w : World) : Calls Try.prog 11 #[.int .i64 c, .bool two, .int .u64 st] w fun e w' =>
    e = .returned (.tuple #[.pointer (some ⟨w.heap.size, 0, none⟩), .int .i64 0]) ∧ Below w.heap.size w w' ∧ RA w' w.heap.size (w.heap.size + 1) (newA c.toNat two st) := by
  refine (RNew_calls c two st h1 h2 w).mono ?_
  rintro e w' ⟨v, he, hb, hr⟩
  have := mrel_new c.toNat two st hst
  rw [show ((c.toNat : Nat) : Int) = c by omega] at this
  exact ⟨he, hb, _, v, hr, this⟩
theorem R_claim (h : RA w rb B a) : Calls Try.prog 25 #[.pointer (some ⟨rb, 0, none⟩)] w fun e w' => e = .returned (claimR a).2 ∧ RA w' rb B (claimR a).1 ∧ Far rb rb w w' := by
  obtain ⟨r, v, h1, h2⟩ := h
  refine (RClaim_calls h1).mono ?_
  intro e w' hp
  obtain ⟨he, r', v', hw, hm⟩ := cla_same h2 hp
  exact ⟨he, ⟨r', v', hw.rl, hm⟩, hw.fr⟩
theorem R_lay (h : RA w rb B a) (ho : AOk a) (q ep n g : Int) (hq : U64 q) : Calls Try.prog 26 #[.pointer (some ⟨rb, 0, none⟩), .agg (aTick q ep), .agg (aSlot n g)] w fun e w' => e = .returned (.int .i64 (layR a q ep n g).2) ∧ RA w' rb B (layR a q ep n g).1 ∧ Far rb rb w w' := by
  obtain ⟨r, v, h1, h2⟩ := h
  refine (RLay_calls h1 q ep n g).mono ?_
  rintro e w' ⟨res, hf, hp⟩
  rcases lay_same (n := n) (g := g) h2 ho hq hf with ⟨hr, hl⟩ | ⟨i, hr, hl, hm⟩
  · rcases hp with ⟨_, he, hw⟩ | ⟨i, m, v', hi, _⟩
    · rw [hl]; exact ⟨he, ⟨r, v, hw.rl, h2⟩, hw.fr⟩
    · omega
  · rcases hp with ⟨h5, _⟩ | ⟨i', m, v', hi, hm', he, hw⟩
    · omega
    · have : i' = i := by omega
      subst this
      rw [hl]
      exact ⟨he, ⟨_, v', hw.rl, hm m hm'⟩, hw.fr⟩
theorem R_ready (h : RA w rb B a) (ho : AOk a) (q ep : Int) (hq : U64 q) : Calls Try.prog 27 #[.pointer (some ⟨rb, 0, none⟩), .agg (aTick q ep)] w fun e w' => e = .returned (.bool (readyR a q ep)) ∧ Below w.heap.size w w' := by
  obtain ⟨r, v, h1, h2⟩ := h
  refine (RReady_calls h1 q ep).mono ?_
  rintro e w' ⟨b, hr, he, hb⟩
  rw [← rdy_same h2 ho hq hr]
  exact ⟨he, hb⟩
theorem R_pub (h : RA w rb B a) (ho : AOk a) (q ep x y : Int) (hq : U64 q) : Calls Try.prog 28 #[.pointer (some ⟨rb, 0, none⟩), .agg (aTick q ep), .agg (aStamp x y)] w fun e w' => e = .returned (.int .i64 (pubR a q ep x y).2) ∧ RA w' rb B (pubR a q ep x y).1 ∧ Far rb rb w w' := by
  obtain ⟨r, v, h1, h2⟩ := h
  refine (RPub_calls h1 q ep x y).mono ?_
  intro e w' hp
  obtain ⟨he, r', v', hw, hm⟩ := pub_same h2 ho hq hp
  exact ⟨he, ⟨r', v', hw.rl, hm⟩, hw.fr⟩
theorem R_first (h : RA w rb B a) : Calls Try.prog 29 #[.pointer (some ⟨rb, 0, none⟩)] w fun e w' => e = .returned (firstR a) ∧ RA w' rb B a ∧ Far rb rb w w' := by
  obtain ⟨r, v, h1, h2⟩ := h
  refine (RFirst_calls h1).mono ?_
  intro e w' hp
  obtain ⟨he, r', v', hw, hm⟩ := first_same h2 hp
  exact ⟨he, ⟨r', v', hw.rl, hm⟩, hw.fr⟩
theorem R_take (h : RA w rb B a) : Calls Try.prog 30 #[.pointer (some ⟨rb, 0, none⟩)] w fun e w' => e = .returned (takeR a).2 ∧ RA w' rb B (takeR a).1 ∧ Far rb rb w w' := by
  obtain ⟨r, v, h1, h2⟩ := h
  refine (RTake_calls h1).mono ?_
  intro e w' hp
  obtain ⟨he, r', v', hw, hm⟩ := take_same h2 hp
  exact ⟨he, ⟨r', v', hw.rl, hm⟩, hw.fr⟩
theorem R_ret (h : RA w rb B a) (ho : AOk a) (q ep : Int) (hq : U64 q) : Calls Try.prog 31 #[.pointer (some ⟨rb, 0, none⟩), .agg (aTick q ep)] w fun e w' => e = .returned (retR a q ep).2 ∧ RA w' rb B (retR a q ep).1 ∧ Far rb rb w w' := by
  obtain ⟨r, v, h1, h2⟩ := h
  refine (RRet_calls h1 q ep).mono ?_
  intro e w' hp
  obtain ⟨he, r', v', hw, hm⟩ := ret_same h2 ho hq hp
  exact ⟨he, ⟨r', v', hw.rl, hm⟩, hw.fr⟩
theorem R_reset (h : RA w rb B a) (ho : AOk a) : Calls Try.prog 32 #[.pointer (some ⟨rb, 0, none⟩)] w fun e w' =>
    ∃ A c, e = .returned (.tuple #[.slice A (resetL a).length c, .int .i64 (resetR a).2]) ∧ (resetL a).length ≤ c ∧ SlotsAt w' A (resetL a) ∧ RA w' rb B (resetR a).1 ∧ Far rb rb w w' := by
  obtain ⟨r, v, h1, h2⟩ := h
  refine (RReset_calls h1).mono ?_
  intro e w' hp
  obtain ⟨A, c, he, hc, hs, r', v', hw, hm⟩ := reset_same h2 ho hp
  exact ⟨A, c, he, hc, hs, ⟨r', v', hw.rl, hm⟩, hw.fr⟩
theorem R_state (h : RA w rb B a) : Calls Try.prog 14 #[.pointer (some ⟨rb, 0, none⟩)] w fun e w' => e = .returned (.agg (stateR a)) ∧ RA w' rb B a ∧ Far rb rb w w' := by
  obtain ⟨r, v, h1, h2⟩ := h
  refine (RState_calls h1 (by rw [h2.cr]; omega)).mono ?_
  rintro e w' ⟨he, hw⟩
  rw [state_same h2] at he
  exact ⟨he, ⟨r, v, hw.rl, h2⟩, hw.fr⟩
end
/-- What LaneRuns knows: a lane, the document's one, its own boxes. -/
structure Ar (w0 : World) (b m : Nat) (a : AS) (rb B : Nat) (a' : AS) (k : Nat) (L : List (Nat × Obj)) (w : World) : Prop where
  l1 : LnA w b m a k
  l2 : RA w rb B a'
  be : Below w0.heap.size w0 w
  lo : w0.heap.size ≤ b ∧ w0.heap.size ≤ m ∧ w0.heap.size ≤ rb
  ne : b ≠ rb ∧ m ≠ rb ∧ b < B ∧ m < B
  obj : ∀ p ∈ L, w.heap[p.1]? = some p.2 ∧ (p.1 ≠ b ∧ p.1 ≠ m) ∧ p.1 ≠ rb
section
variable {w0 w w' : World} {b m rb B k k' : Nat} {a a' a1 : AS} {L L' : List (Nat × Obj)}
theorem Ar.below (h : Ar w0 b m a rb B a' k L w) (j : Below w.heap.size w w') : Ar w0 b m a rb B a' k L w' :=
  ⟨h.l1.below j, h.l2.below j, h.be.trans (j.mono h.be.size), h.lo, h.ne, fun p hp => ⟨obj_below j (h.obj p hp).1, (h.obj p hp).2⟩⟩
theorem Ar.alloc (h : Ar w0 b m a rb B a' k L w) (o : Obj) : Ar w0 b m a rb B a' k ((w.heap.size, o) :: L) (w.alloc o) := by
  have j := h.below ((Below.refl _ w).alloc (Nat.le_refl _) o)
  have hl := h.l1.lt
  have hl2 := h.l2.lt
  refine ⟨j.l1, j.l2, j.be, j.lo, j.ne, fun p hp => ?_⟩
  rcases List.mem_cons.1 hp with rfl | hp
  · exact ⟨World.alloc_heap_new _ _, by simp only; omega, by simp only; omega⟩
  · exact j.obj p hp
theorem Ar.alloc2 (h : Ar w0 b m a rb B a' k L w) (o o' : Obj) : Ar w0 b m a rb B a' k ((w.heap.size + 1, o') :: (w.heap.size, o) :: L) ((w.alloc o).alloc o') := by
  have j := (h.alloc o).alloc o'
  have e : (w.alloc o).heap.size = w.heap.size + 1 := by show (w.heap.push o).size = _; exact Array.size_push _
  rw [e] at j
  exact j
theorem Ar.call1 (h : Ar w0 b m a rb B a' k L w) (hl : LnA w' b m a1 (k + 1)) (j : Far b m w w') : Ar w0 b m a1 rb B a' (k + 1) L w' :=
  ⟨hl, h.l2.far j (Ne.symm h.ne.1) (Ne.symm h.ne.2.1) h.ne.2.2.1 h.ne.2.2.2, Far.up h.be h.be.size h.lo.1 h.lo.2.1 j, h.lo, h.ne,
    fun p hp => ⟨(j.block p.1 (Array.getElem?_eq_some_iff.1 (h.obj p hp).1).1 (h.obj p hp).2.1.1 (h.obj p hp).2.1.2).trans (h.obj p hp).1, (h.obj p hp).2⟩⟩
theorem Ar.call2 (h : Ar w0 b m a rb B a' k L w) (hl : RA w' rb B a1) (j : Far rb rb w w') : Ar w0 b m a rb B a1 k L w' :=
  ⟨h.l1.far j h.ne.1 h.ne.1 h.ne.2.1 h.ne.2.1, hl, Far.up h.be h.be.size h.lo.2.2 h.lo.2.2 j, h.lo, h.ne,
    fun p hp => ⟨(j.block p.1 (Array.getElem?_eq_some_iff.1 (h.obj p hp).1).1 (h.obj p hp).2.2 (h.obj p hp).2.2).trans (h.obj p hp).1, (h.obj p hp).2⟩⟩
theorem Ar.mono (h : Ar w0 b m a rb B a' k L w) (hk : k ≤ k') : Ar w0 b m a rb B a' k' L w := ⟨h.l1.mono hk, h.l2, h.be, h.lo, h.ne, h.obj⟩
theorem Ar.sub (h : Ar w0 b m a rb B a' k L' w) (hs : ∀ p ∈ L, p ∈ L') : Ar w0 b m a rb B a' k L w := ⟨h.l1, h.l2, h.be, h.lo, h.ne, fun p hp => h.obj p (hs p hp)⟩
theorem Ar.ptr (h : Ar w0 b m a rb B a' k L w) {g : Nat} {C : Array Value} {t : TypeId} (hg : (g, Obj.cells C t) ∈ L) (j : Nat) : w.cell? ⟨g, j, none⟩ = C[j]? ∧ w.frozen? ⟨g, j, none⟩ = false := by
  have h1 := (h.obj _ hg).1
  constructor
  · simp only [World.cell?, h1]; rfl
  · simp [World.frozen?, h1]
end
theorem firstR_shape (a : AS) : ∃ x y q ep b, firstR a = .tuple #[.agg (aStamp x y), .agg (aTick q ep), .bool b] := by
  unfold firstR
  split
  · exact ⟨_, _, _, _, _, rfl⟩
  · exact ⟨_, _, _, _, _, rfl⟩
end Go.Proofs.Ytglekbbdbnpohaa.QLn
