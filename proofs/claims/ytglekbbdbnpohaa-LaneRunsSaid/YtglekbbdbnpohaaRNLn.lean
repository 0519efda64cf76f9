/- A region that draws its order and writes, last of all, what it read: the condition S need not hold behind the operation that waits for all who read. -/
import Derived.Test.YtglekbbdbnpohaaZ1Ln
namespace Go.Proofs.Ytglekbbdbnpohaa.QLn
open Go.RowKit
set_option linter.unusedVariables false
section
variable {P : Program} {ops : Array Oper} {Q : Exit → Act → World → Prop} {md : Region.Mode} {S : World → Prop} {N : List Nat}
/-- Operation j waits for each of N. -/
def waitsFor (md : Region.Mode) (ops : Array Oper) (N : List Nat) (j : Nat) : Bool :=
  match ops[j]? with
  | some o => N.all (fun n => o.after.any (fun e => Region.binds md e && e.on == n))
  | none => false
theorem waits_edge {j n : Nat} {o : Oper} (ho : ops[j]? = some o) (h : waitsFor md ops N j = true) (hn : n ∈ N) : ∃ e ∈ o.after, Region.binds md e = true ∧ e.on = n := by
  unfold waitsFor at h
  simp only [ho] at h
  have h1 := List.all_eq_true.1 h n hn
  rw [Array.any_eq_true'] at h1
  obtain ⟨e, he, h2⟩ := h1
  rw [Bool.and_eq_true] at h2
  exact ⟨e, he, h2.1, beq_iff_eq.1 h2.2⟩
/-- Whatever order is drawn: S goes on to hold, but behind an operation that waits for all of N. -/
def anyN (P : Program) (md : Region.Mode) (ops : Array Oper) (Q : Exit → Act → World → Prop) (S : World → Prop) (N : List Nat) : Nat → Array Bool → Act → World → Prop
  | 0, ls, a, w => Region.ready md ops ls = [] ∧ Q .normal a w
  | n + 1, ls, a, w => (Region.ready md ops ls = [] → Q .normal a w) ∧ ∀ j ∈ Region.ready md ops ls, wpOp P ops Q j (fun a' w' => (S w → S w' ∨ waitsFor md ops N j = true) ∧ anyN P md ops Q S N n (ls.setIfInBounds j true) a' w') a w
theorem anyN_any : ∀ (n : Nat) (ls : Array Bool) (a : Act) (w : World), anyN P md ops Q S N n ls a w → wpAny P md ops Q n ls a w
  | 0, _, _, _, h => h
  | n + 1, _, _, _, h => ⟨h.1, fun j hj => wpOp_mono (fun _ _ k => anyN_any n _ _ _ k.2) (h.2 j hj)⟩
theorem startN {id : Nat} {a : Act} {w : World} (hm : P.follows .mixedOrders = true) (h : anyN P .any ops Q S N ops.size (Array.replicate ops.size false) a w.drew) : (Code.region id ops true).wp P Q a w :=
  wp_region_any hm (anyN_any _ _ _ _ h)
theorem doneN {ls : Array Bool} {a : Act} {w : World} (hr : Region.ready md ops ls = []) (h : Q .normal a w) (n : Nat) : anyN P md ops Q S N n ls a w := by
  cases n with
  | zero => exact ⟨hr, h⟩
  | succ n => exact ⟨fun _ => h, fun j hj => by rw [hr] at hj; cases hj⟩
/-- An operation whose value hangs on S alone, and which is one of N, may come first. -/
theorem firstN {i : Nat} {oi : Oper} {v : Value} (hi : ops[i]? = some oi) (hsel : ∀ (j : Nat) (o : Oper) cs b, ops[j]? = some o → o.op ≠ .select cs b)
    (hQ : ∀ c a w, Q (.panic c) (a.put oi.dst v) w → Q (.panic c) a w) {T : World → Prop} (hT : (∀ w, T w) ∨ (T = S ∧ i ∈ N)) (n : Nat) : ∀ (ls : Array Bool) (a : Act) (w : World),
      (∀ j oj, ops[j]? = some oj → j ≠ i → ls.getD j true = false → (∀ e ∈ oj.after, Region.binds md e = true → e.on ≠ i) → oi.apart ops oj = true) →
      i ∈ Region.ready md ops ls → YieldsIf P ops T oi v a → T w →
      anyN P md ops Q S N n (ls.setIfInBounds i true) (a.put oi.dst v) w → anyN P md ops Q S N (n + 1) ls a w := by
  induction n with
  | zero =>
    intro ls a w _ hr hy hw h
    constructor
    · intro h0; rw [h0] at hr; cases hr
    · intro j hj
      rcases Nat.decEq j i with hne | rfl
      · have h1 := ready_mono hj hne
        rw [h.1] at h1
        cases h1
      · exact hy.wpOp hi hw ⟨Or.inl, h⟩
  | succ n ih =>
    intro ls a w hf hr hy hw h
    constructor
    · intro h0; rw [h0] at hr; cases hr
    · intro j hj
      rcases Nat.decEq j i with hne | rfl
      · obtain ⟨hju, oj, hoj, hed⟩ := mem_ready.1 hj
        have hiu := (mem_ready.1 hr).1
        have hno : ∀ e ∈ oj.after, Region.binds md e = true → e.on ≠ i := by
          intro e he hb hi'
          have h2 := hed e he hb
          rw [hi'] at h2
          rw [Array.getD_eq_getD_getElem?] at h2 hiu
          cases hls : ls[i]? with
          | none => rw [hls] at h2; cases h2
          | some b => rw [hls] at h2 hiu; simp only [Option.getD_some] at h2 hiu; rw [h2] at hiu; cases hiu
        have hap := hf j oj hoj hne hju hno
        have h1 := wpOp_putIf hoj hap (fun cs b => hsel i oi cs b hi) (fun cs b => hsel j oj cs b hoj) hQ hy (h.2 j (ready_mono hj hne))
        refine wpOp_mono (fun a' w' k => ⟨k.2.1, ih _ a' w' ?_ (ready_mono hr (fun e => hne e.symm)) k.1 ?_ ?_⟩) h1
        · intro k' ok hk hki hun hno'
          refine hf k' ok hk hki ?_ hno'
          rcases Nat.decEq j k' with hjk | rfl
          · rwa [getD_set_ne true hjk] at hun
          · exact hju
        · rcases hT with hT | ⟨rfl, hiN⟩
          · exact hT _
          · rcases k.2.1 hw with k1 | k1
            · exact k1
            · obtain ⟨e, he, hb, hon⟩ := waits_edge hoj k1 hiN
              exact absurd hon (hno e he hb)
        · have := k.2.2
          rwa [Array.setIfInBounds_comm _ _ (fun e => hne e.symm)] at this
      · exact hy.wpOp hi hw ⟨Or.inl, h⟩
theorem takeN {i : Nat} {oi : Oper} {v : Value} {n : Nat} {ls : Array Bool} {a : Act} {w : World} (d : Nat) (hi : ops[i]? = some oi) (hd : oi.dst = some d) (hs : Region.noSelect ops = true) (hf : Region.free md ops ls i = true) (hr : (Region.ready md ops ls).contains i = true)
    (hQ : ∀ c a w, Q (.panic c) (a.put (some d) v) w → Q (.panic c) a w) (hN : N.contains i = true) (hy : YieldsIf P ops S oi v a) (hw : S w) (h : anyN P md ops Q S N n (ls.setIfInBounds i true) (a.put (some d) v) w) : anyN P md ops Q S N (n + 1) ls a w :=
  firstN hi (Region.noSelect_spec hs) (by rw [hd]; exact hQ) (Or.inr ⟨rfl, by simpa using hN⟩) n ls a w (Region.free_spec hi hf) (by simpa using hr) hy hw (by rw [hd]; exact h)
theorem takeF {i : Nat} {oi : Oper} {v : Value} {n : Nat} {ls : Array Bool} {a : Act} {w : World} (d : Nat) (hi : ops[i]? = some oi) (hd : oi.dst = some d) (hs : Region.noSelect ops = true) (hf : Region.free md ops ls i = true) (hr : (Region.ready md ops ls).contains i = true)
    (hQ : ∀ c a w, Q (.panic c) (a.put (some d) v) w → Q (.panic c) a w) (hy : YieldsIf P ops (fun _ => True) oi v a) (h : anyN P md ops Q S N n (ls.setIfInBounds i true) (a.put (some d) v) w) : anyN P md ops Q S N (n + 1) ls a w :=
  firstN hi (Region.noSelect_spec hs) (by rw [hd]; exact hQ) (Or.inl fun _ => trivial) n ls a w (Region.free_spec hi hf) (by simpa using hr) hy trivial (by rw [hd]; exact h)
/-- What comes up is one of these. -/
def eachN (P : Program) (md : Region.Mode) (ops : Array Oper) (Q : Exit → Act → World → Prop) (S : World → Prop) (N : List Nat) (n : Nat) (ls : Array Bool) (a : Act) (w : World) (rs : List Nat) : Prop :=
  ∀ j ∈ rs, wpOp P ops Q j (fun a' w' => (S w → S w' ∨ waitsFor md ops N j = true) ∧ anyN P md ops Q S N n (ls.setIfInBounds j true) a' w') a w
theorem readyN {rs : List Nat} {n : Nat} {ls : Array Bool} {a : Act} {w : World} (hr : Region.ready md ops ls = rs) (hne : rs ≠ []) (h : eachN P md ops Q S N n ls a w rs) : anyN P md ops Q S N (n + 1) ls a w :=
  ⟨fun h0 => absurd (hr.symm.trans h0) hne, by rw [hr]; exact h⟩
theorem eachN.nil {n : Nat} {ls : Array Bool} {a : Act} {w : World} : eachN P md ops Q S N n ls a w [] := fun _ h => by cases h
theorem eachN.cons {n : Nat} {ls : Array Bool} {a : Act} {w : World} {i : Nat} {o : Oper} {rs : List Nat} (ho : ops[i]? = some o)
    (h : ∀ K : Act → World → Prop, Shut (∀ a w', S w' → (S w' → anyN P md ops Q S N n (ls.setIfInBounds i true) a w') → K a w') → if Region.wanted o (yielded ops a.tmps) = true then Oper.wp P o a w K Q else K (a.put o.dst undef) w)
    (hs : eachN P md ops Q S N n ls a w rs) : eachN P md ops Q S N n ls a w (i :: rs) := fun j hj => by
  rcases List.mem_cons.1 hj with rfl | hj
  · exact wpOp_step ho (fun K hK => h K (fun a w' h1 h2 => hK a w' ⟨fun _ => Or.inl h1, h2 h1⟩))
  · exact hs j hj
theorem eachN.last {n : Nat} {ls : Array Bool} {a : Act} {w : World} {i : Nat} {o : Oper} (ho : ops[i]? = some o) (hb : waitsFor md ops N i = true)
    (h : ∀ K : Act → World → Prop, Shut (∀ a w', anyN P md ops Q S N n (ls.setIfInBounds i true) a w' → K a w') → if Region.wanted o (yielded ops a.tmps) = true then Oper.wp P o a w K Q else K (a.put o.dst undef) w) : eachN P md ops Q S N n ls a w [i] := fun j hj => by
  rcases List.mem_cons.1 hj with rfl | hj
  · exact wpOp_step ho (fun K hK => h K (fun a w' h2 => hK a w' ⟨fun _ => Or.inr hb, h2⟩))
  · cases hj
end
end Go.Proofs.Ytglekbbdbnpohaa.QLn
