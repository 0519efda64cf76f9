/- Lane: a map as a list of what was taken. -/
import Derived.Test.YtglekbbdbnpohaaJLn
namespace Go.Proofs.Ytglekbbdbnpohaa.QLn
open Go.RowKit Go.Maps Go.Proofs.YtglekbbdbnpohaaW.PrintWords Go.Proofs.YtglekbbdbnpohaaW.PrintLast Go.Proofs.YtglekbbdbnpohaaW.PrintMore
set_option linter.unusedVariables false
set_option linter.unusedSimpArgs false
def kv (x : Int × Past) : Lit × DataW Past := (.int .u64 x.1, .held x.2)
/-- The map holds what the list says, in some order. -/
def Lst (D : DataW Past) (l : List (Int × Past)) : Prop := ∃ es, D = .map es ∧ es.Perm (l.map kv) ∧ (l.map Prod.fst).Nodup
theorem Lst.nil : Lst (.map []) [] := ⟨[], rfl, List.Perm.refl _, List.Pairwise.nil⟩
theorem Lst.isMap {D : DataW Past} {l : List (Int × Past)} (h : Lst D l) : IsMap D := by
  obtain ⟨es, e, _⟩ := h
  exact ⟨es, e⟩
def lookL (l : List (Int × Past)) (k : Int) : Option Past := (l.find? (fun x => x.1 == k)).map Prod.snd
theorem same_iff (a b : Int) : (Lit.int .u64 a).sameKey (.int .u64 b) = true ↔ a = b := by
  rw [WideAt.sameKey_iff (isKey b)]
  constructor
  · intro h; cases h; rfl
  · intro h; rw [h]
theorem nodup_eq : ∀ {l : List (Int × Past)}, (l.map Prod.fst).Nodup → ∀ {k : Int} {p q : Past}, (k, p) ∈ l → (k, q) ∈ l → p = q
  | [], _, _, _, _, h, _ => by simp at h
  | x :: l, hn, k, p, q, h1, h2 => by
    rw [List.map_cons, List.nodup_cons] at hn
    rcases List.mem_cons.1 h1 with e1 | m1
    · rcases List.mem_cons.1 h2 with e2 | m2
      · rw [← e1] at e2; cases e2; rfl
      · exfalso; exact hn.1 (List.mem_map.2 ⟨(k, q), m2, by rw [← e1]⟩)
    · rcases List.mem_cons.1 h2 with e2 | m2
      · exfalso; exact hn.1 (List.mem_map.2 ⟨(k, p), m1, by rw [← e2]⟩)
      · exact nodup_eq hn.2 m1 m2
theorem lookL_some {l : List (Int × Past)} (hn : (l.map Prod.fst).Nodup) {k : Int} {p : Past} : lookL l k = some p ↔ (k, p) ∈ l := by
  unfold lookL
  constructor
  · intro h
    cases hf : l.find? (fun x => x.1 == k) with
    | none => rw [hf] at h; cases h
    | some x =>
      rw [hf] at h
      have h1 := List.mem_of_find?_eq_some hf
      have h2 := List.find?_some hf
      simp only [beq_iff_eq] at h2
      cases h
      rw [← h2]
      exact h1
  · intro h
    cases hf : l.find? (fun x => x.1 == k) with
    | none =>
      have := List.find?_eq_none.1 hf _ h
      simp at this
    | some x =>
      have h1 := List.mem_of_find?_eq_some hf
      have h2 := List.find?_some hf
      simp only [beq_iff_eq] at h2
      obtain ⟨a, b⟩ := x
      simp only at h2
      subst h2
      rw [nodup_eq hn h1 h]; rfl
theorem lookL_none {l : List (Int × Past)} {k : Int} : lookL l k = none ↔ ∀ x ∈ l, x.1 ≠ k := by
  unfold lookL
  rw [Option.map_eq_none_iff, List.find?_eq_none]
  simp
theorem Lst.look {D : DataW Past} {l : List (Int × Past)} (h : Lst D l) (k : Int) : QLn.look D k = lookL l k := by
  obtain ⟨es, rfl, hp, hn⟩ := h
  have hpw : es.Pairwise (fun p q => p.1 ≠ q.1) := by
    have h1 : (l.map kv).Pairwise (fun p q => p.1 ≠ q.1) := by
      rw [List.pairwise_map]
      have := List.pairwise_map.1 hn
      exact this.imp (fun hab e => hab (by simp only [kv, Lit.int.injEq] at e; exact e.2))
    exact (hp.pairwise_iff (fun {a b} hab => Ne.symm hab)).2 h1
  cases hl : lookL l k with
  | some p =>
    have hm := (lookL_some hn).1 hl
    have : kv (k, p) ∈ es := hp.mem_iff.2 (List.mem_map.2 ⟨_, hm, rfl⟩)
    unfold QLn.look
    rw [WideAt.atKey_mem .nil (isKey k) hpw this]
  | none =>
    have hm := lookL_none.1 hl
    have hh : has (.map es) (.int .u64 k) = false := by
      rw [has_eq, List.any_eq_false]
      intro x hx
      obtain ⟨y, hy, rfl⟩ := List.mem_map.1 (hp.mem_iff.1 hx)
      intro hc
      exact hm y hy ((same_iff _ _).1 hc)
    unfold QLn.look
    rw [atKey_of_not_has hh]
theorem ins_perm (x : Lit × DataW Past) : ∀ l : List (Lit × DataW Past), (DataW.insert x l).Perm (x :: l)
  | [] => List.Perm.refl _
  | y :: l => by
    unfold DataW.insert
    split
    · exact List.Perm.refl _
    · exact ((ins_perm x l).cons y).trans (List.Perm.swap x y l)
theorem filt (k : Int) (l : List (Int × Past)) : (l.map kv).filter (fun p => !p.1.sameKey (.int .u64 k)) = (l.filter (fun x => decide (x.1 ≠ k))).map kv := by
  rw [List.filter_map]
  congr 1
  apply List.filter_congr
  intro x _
  show (!(Lit.int .u64 x.1).sameKey (.int .u64 k)) = decide (x.1 ≠ k)
  by_cases e : x.1 = k
  · rw [(same_iff _ _).2 e]; simp [e]
  · have : (Lit.int .u64 x.1).sameKey (.int .u64 k) = false := by
      cases hh : (Lit.int .u64 x.1).sameKey (.int .u64 k) with
      | false => rfl
      | true => exact absurd ((same_iff _ _).1 hh) e
    rw [this]; simp [e]
theorem Lst.del {D : DataW Past} {l : List (Int × Past)} (h : Lst D l) (k : Int) : Lst (D.del (.int .u64 k)) (l.filter (fun x => decide (x.1 ≠ k))) := by
  obtain ⟨es, rfl, hp, hn⟩ := h
  refine ⟨es.filter (fun p => !p.1.sameKey (.int .u64 k)), rfl, ?_, hn.sublist ((List.filter_sublist).map _)⟩
  rw [← filt]
  exact hp.filter _
theorem Lst.put_new {D : DataW Past} {l : List (Int × Past)} (h : Lst D l) (k : Int) (p : Past) (hk : ∀ x ∈ l, x.1 ≠ k) : Lst (D.put (.int .u64 k) (.held p)) (l ++ [(k, p)]) := by
  obtain ⟨es, rfl, hp, hn⟩ := h
  refine ⟨_, rfl, ?_, ?_⟩
  · refine (ins_perm _ _).trans ?_
    have h1 := hp.filter (fun p => !p.1.sameKey (.int .u64 k))
    have e0 : l.filter (fun x => decide (x.1 ≠ k)) = l := List.filter_eq_self.2 (fun x hx => by simpa using hk x hx)
    rw [filt, e0] at h1
    rw [List.map_append]
    exact (h1.cons _).trans (List.perm_append_comm (l₁ := [kv (k, p)]) (l₂ := l.map kv))
  · rw [List.map_append, List.nodup_append]
    refine ⟨hn, by simp, fun a ha b hb => ?_⟩
    obtain ⟨x, hx, rfl⟩ := List.mem_map.1 ha
    simp only [List.map_cons, List.map_nil, List.mem_singleton] at hb
    rw [hb]
    exact hk x hx
def setL (l : List (Int × Past)) (k : Int) (p : Past) : List (Int × Past) := l.map (fun x => if x.1 = k then (k, p) else x)
theorem setL_keys (k : Int) (p : Past) (l : List (Int × Past)) : (setL l k p).map Prod.fst = l.map Prod.fst := by
  unfold setL
  rw [List.map_map]
  apply List.map_congr_left
  intro x _
  by_cases e : x.1 = k
  · simp [e]
  · simp [e]
theorem setL_perm (k : Int) (p : Past) : ∀ l : List (Int × Past), (l.map Prod.fst).Nodup → (∃ q, (k, q) ∈ l) → (setL l k p).Perm ((k, p) :: l.filter (fun x => decide (x.1 ≠ k)))
  | [], _, h => by obtain ⟨q, hq⟩ := h; simp at hq
  | x :: l, hn, h => by
    rw [List.map_cons, List.nodup_cons] at hn
    by_cases e : x.1 = k
    · have hno : ∀ y ∈ l, y.1 ≠ k := fun y hy ey => hn.1 (List.mem_map.2 ⟨y, hy, by rw [ey, e]⟩)
      have e1 : setL l k p = l := by
        unfold setL
        refine (List.map_congr_left (g := id) (fun y hy => ?_)).trans (List.map_id l)
        rw [if_neg (hno y hy)]; rfl
      have e2 : l.filter (fun x => decide (x.1 ≠ k)) = l := List.filter_eq_self.2 (fun y hy => by simpa using hno y hy)
      show ((if x.1 = k then (k, p) else x) :: setL l k p).Perm _
      rw [if_pos e, e1, List.filter_cons_of_neg (by simp [e]), e2]
    · show ((if x.1 = k then (k, p) else x) :: setL l k p).Perm _
      rw [if_neg e, List.filter_cons_of_pos (by simp [e])]
      obtain ⟨q, hq⟩ := h
      have hq' : (k, q) ∈ l := by
        rcases List.mem_cons.1 hq with e3 | h3
        · exact absurd (by rw [← e3]) e
        · exact h3
      exact ((setL_perm k p l hn.2 ⟨q, hq'⟩).cons x).trans (List.Perm.swap _ _ _)
theorem Lst.put_old {D : DataW Past} {l : List (Int × Past)} (h : Lst D l) (k : Int) (p : Past) (hk : ∃ q, (k, q) ∈ l) : Lst (D.put (.int .u64 k) (.held p)) (setL l k p) := by
  obtain ⟨es, rfl, hp, hn⟩ := h
  refine ⟨_, rfl, ?_, by rw [setL_keys]; exact hn⟩
  refine (ins_perm _ _).trans ?_
  have h1 := hp.filter (fun p => !p.1.sameKey (.int .u64 k))
  rw [filt] at h1
  exact (h1.cons _).trans ((setL_perm k p l hn hk).map kv).symm
end Go.Proofs.Ytglekbbdbnpohaa.QLn
