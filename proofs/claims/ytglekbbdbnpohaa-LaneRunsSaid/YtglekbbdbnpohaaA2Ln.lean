/- Lane: Reset against the plain machine; what a law knows of two lanes. -/
import Derived.Test.YtglekbbdbnpohaaZLn
import Derived.Test.YtglekbbdbnpohaaSLn
import Derived.Test.YtglekbbdbnpohaaTKLn
namespace Go.Proofs.Ytglekbbdbnpohaa.QLn
open Go.RowKit Go.Proofs.YtglekbbdbnpohaaW.PrintWords Go.Proofs.YtglekbbdbnpohaaW.PrintLast Go.Proofs.YtglekbbdbnpohaaW.PrintMore
set_option linter.unusedVariables false
set_option linter.unusedSimpArgs false
def slotsA (a : AS) : List (Int × Int) := a.A.map (fun x => (x.2.n, x.2.g)) ++ a.P.map (fun e => (e.n, e.g))
/-- A slice of slots, to be read. -/
def SlotsAt (w : World) (A : Option Addr) (l : List (Int × Int)) : Prop := ∀ (i : Nat) (p : Int × Int), l[i]? = some p → ∃ ad, A = some ad ∧ w.cell? (ad.add (i * 2)) = some (.int .i64 p.1) ∧ w.cell? (ad.add (i * 2 + 1)) = some (.int .u64 p.2)
theorem SlotsAt.nil (w : World) (A : Option Addr) : SlotsAt w A [] := fun i p h => by simp at h
theorem SlotsAt.below {w w' : World} {A : Option Addr} {l : List (Int × Int)} (h : SlotsAt w A l) (k : Below w.heap.size w w') : SlotsAt w' A l := fun i p hp => by
  obtain ⟨ad, e, h1, h2⟩ := h i p hp
  exact ⟨ad, e, pw_cell_below k h1, pw_cell_below k h2⟩
theorem fS_get : ∀ (l : List (Int × Int)) (i : Nat) (p : Int × Int), l[i]? = some p → (fS l)[i * 2]? = some (.int .i64 p.1) ∧ (fS l)[i * 2 + 1]? = some (.int .u64 p.2)
  | [], i, p, h => by simp at h
  | x :: l, 0, p, h => by
    simp at h
    subst h
    exact ⟨rfl, rfl⟩
  | x :: l, i + 1, p, h => by
    have ih := fS_get l i p (by simpa using h)
    unfold fS at *
    rw [List.flatMap_cons]
    rw [List.getElem?_append_right (by simp; omega), List.getElem?_append_right (by simp; omega)]
    rw [show (i + 1) * 2 - [Value.int .i64 x.1, Value.int .u64 x.2].length = i * 2 by simp; omega, show (i + 1) * 2 + 1 - [Value.int .i64 x.1, Value.int .u64 x.2].length = i * 2 + 1 by simp; omega]
    exact ih
theorem RowS.slots {w : World} {g N : Nat} {l : List (Int × Int)} (h : RowS w g N l) : SlotsAt w (some ⟨g, 0, none⟩) l := fun i p hp => by
  obtain ⟨h1, h2⟩ := fS_get l i p hp
  refine ⟨_, rfl, ?_, ?_⟩
  · rw [add_z, Nat.zero_add]; exact h.cell _ _ h1
  · rw [add_z, Nat.zero_add]; exact h.cell _ _ h2
theorem dist_ab (st : Int) (x y : Nat) (hx : y ≤ x) (hb : x < 1000000) : dist (ab st y) (ab st x) = ((x - y : Nat) : Int) := wsub st x y hx hb
theorem wadd (st : Int) (x i : Nat) : IntKind.u64.wrap (ab st x + (i : Int)) = ab st (x + i) := by
  rw [IntKind.wrap_u64]; unfold ab; omega
def resetR (a : AS) : AS × Int := if a.C = [] then (resetA a, 0) else (a, 84)
def resetL (a : AS) : List (Int × Int) := if a.C = [] then slotsA a else []
theorem A_reset {b mb : Nat} {a : AS} {k : Nat} {w : World} (h : LnA w b mb a k) (hk : k < 1000000) : Calls Try.prog 18 #[.pointer (some ⟨b, 0, none⟩)] w fun e w' =>
    ∃ A c, e = .returned (.tuple #[.slice A (resetL a).length c, .int .i64 (resetR a).2]) ∧ (resetL a).length ≤ c ∧ SlotsAt w' A (resetL a) ∧ (∀ ad, A = some ad → w.heap.size ≤ ad.block) ∧ LnA w' b mb (resetR a).1 (k + 1) ∧ Far b mb w w' := by
  obtain ⟨s, hs, rfl, hr⟩ := h
  have hb := hr.bn.1
  have htt : a.ready ≤ a.tail := by unfold AS.tail; omega
  by_cases hC : a.C = []
  · have hrt : s.ready = s.tail := by rw [hr.hr, hr.ht]; unfold AS.tail; rw [hC]; rfl
    have hA : ∀ x ∈ a.A, x.1 < 1000000 := fun x hx => A_lt hr hk hx
    have e1 : (a.A.map (fun x => (ab a.start x.1, x.2))).length = a.A.length := List.length_map _
    have e2 : (a.P.map (fun e => (e.n, e.g))).length = a.P.length := List.length_map _
    have htot := hr.tot
    have h64 := hr.c64
    unfold AS.total at htot
    have hcon := Reset_calls b s hr.pos (by rw [hr.cr]; omega) hrt hr.pw (by rw [hr.hb]; exact ab_u64 _ _) (a.A.map (fun x => (ab a.start x.1, x.2))) hr.mp
      (fun x hx => by obtain ⟨y, _, rfl⟩ := List.mem_map.1 hx; exact ab_u64 _ _)
      (by
        rw [List.pairwise_map]
        refine hr.srt.imp_of_mem (fun {x y} hx hy hxy => ?_)
        have h1 := hr.lo x hx
        have h2 := hr.lo y hy
        rw [hr.hb, dist_ab _ _ _ h1.1 (hA x hx), dist_ab _ _ _ h2.1 (hA y hy)]
        omega)
      (a.P.map (fun e => (e.n, e.g)))
      (by
        rw [hr.hr, hr.hh, wsub _ _ _ (by unfold AS.ready; omega) (by omega), e2]
        unfold AS.ready; omega)
      (fun i p hp => by
        rw [List.getElem?_map] at hp
        cases he : a.P[i]? with
        | none => rw [he] at hp; cases hp
        | some e =>
          rw [he] at hp
          cases hp
          rw [hr.hh, wadd, hr.rp i e he]
          exact ⟨rfl, rfl⟩)
      (by rw [e1, hr.cr]; omega) (by rw [e1, e2]; omega) w hs
    refine hcon.mono ?_
    rintro e w' ⟨ga, rfl, hrow, hga, hln, hf⟩
    have es : slL (a.A.map (fun x => (ab a.start x.1, x.2))) = a.A.map (fun x => (x.2.n, x.2.g)) := by unfold slL; rw [List.map_map]; rfl
    have el : (resetL a).length = a.A.length + a.P.length := by unfold resetL; rw [if_pos hC]; unfold slotsA; rw [List.length_append, List.length_map, List.length_map]
    rw [e1, e2] at hrow ⊢
    refine ⟨some ⟨ga, 0, none⟩, _, ?_, by rw [el]; exact Nat.le_refl _, ?_, fun ad e => by cases e; exact hga, ⟨_, hln, rfl, ?_⟩, hf⟩
    · rw [el]; unfold resetR; rw [if_pos hC]
    · have h3 := hrow.slots
      unfold resetL
      rw [if_pos hC]
      unfold slotsA
      rw [← es]
      exact h3
    · unfold resetR; rw [if_pos hC]; exact rel_reset hr hk hC
  · have hrt : s.ready ≠ s.tail := by
      rw [hr.hr, hr.ht]
      intro h
      have := ab_inj (by omega) (by omega) h
      unfold AS.tail at this
      exact hC (List.eq_nil_of_length_eq_zero (by omega))
    refine (Reset_claimed b s hr.pos hrt w hs).mono ?_
    rintro e w' ⟨rfl, h1⟩
    unfold resetL resetR
    rw [if_neg hC, if_neg hC]
    exact ⟨none, 0, rfl, Nat.le_refl _, SlotsAt.nil _ _, (fun ad e => by cases e), ⟨s, hs.below h1, rfl, hr.mono (Nat.le_succ k)⟩, Far.of_below h1⟩
/-! ### Two lanes -/
structure Aw2 (w0 : World) (b m : Nat) (a : AS) (b' m' : Nat) (a' : AS) (k : Nat) (L : List (Nat × Obj)) (w : World) : Prop where
  l1 : LnA w b m a k
  l2 : LnA w b' m' a' k
  be : Below w0.heap.size w0 w
  lo : w0.heap.size ≤ b ∧ w0.heap.size ≤ m ∧ w0.heap.size ≤ b' ∧ w0.heap.size ≤ m'
  ne : b ≠ b' ∧ b ≠ m' ∧ m ≠ b' ∧ m ≠ m'
  obj : ∀ p ∈ L, w.heap[p.1]? = some p.2 ∧ (p.1 ≠ b ∧ p.1 ≠ m) ∧ (p.1 ≠ b' ∧ p.1 ≠ m')
section
variable {w0 w w' : World} {b m b' m' k k' : Nat} {a a' a1 : AS} {L : List (Nat × Obj)}
theorem Aw2.below (h : Aw2 w0 b m a b' m' a' k L w) (j : Below w.heap.size w w') : Aw2 w0 b m a b' m' a' k L w' :=
  ⟨h.l1.below j, h.l2.below j, h.be.trans (j.mono h.be.size), h.lo, h.ne, fun p hp => ⟨obj_below j (h.obj p hp).1, (h.obj p hp).2⟩⟩
theorem Aw2.alloc (h : Aw2 w0 b m a b' m' a' k L w) (o : Obj) : Aw2 w0 b m a b' m' a' k ((w.heap.size, o) :: L) (w.alloc o) := by
  have j := h.below ((Below.refl _ w).alloc (Nat.le_refl _) o)
  have hl := h.l1.lt
  have hl2 := h.l2.lt
  refine ⟨j.l1, j.l2, j.be, j.lo, j.ne, fun p hp => ?_⟩
  rcases List.mem_cons.1 hp with rfl | hp
  · exact ⟨World.alloc_heap_new _ _, by simp only; omega, by simp only; omega⟩
  · exact j.obj p hp
theorem Aw2.call1 (h : Aw2 w0 b m a b' m' a' k L w) (hl : LnA w' b m a1 (k + 1)) (j : Far b m w w') : Aw2 w0 b m a1 b' m' a' (k + 1) L w' := by
  have hl2 := h.l2.lt
  exact ⟨hl, (h.l2.far j (Ne.symm h.ne.1) (Ne.symm h.ne.2.2.1) (Ne.symm h.ne.2.1) (Ne.symm h.ne.2.2.2)).mono (Nat.le_succ k), Far.up h.be h.be.size h.lo.1 h.lo.2.1 j, h.lo, h.ne,
    fun p hp => ⟨(j.block p.1 (Array.getElem?_eq_some_iff.1 (h.obj p hp).1).1 (h.obj p hp).2.1.1 (h.obj p hp).2.1.2).trans (h.obj p hp).1, (h.obj p hp).2⟩⟩
theorem Aw2.call2 (h : Aw2 w0 b m a b' m' a' k L w) (hl : LnA w' b' m' a1 (k + 1)) (j : Far b' m' w w') : Aw2 w0 b m a b' m' a1 (k + 1) L w' :=
  ⟨(h.l1.far j h.ne.1 h.ne.2.1 h.ne.2.2.1 h.ne.2.2.2).mono (Nat.le_succ k), hl, Far.up h.be h.be.size h.lo.2.2.1 h.lo.2.2.2 j, h.lo, h.ne,
    fun p hp => ⟨(j.block p.1 (Array.getElem?_eq_some_iff.1 (h.obj p hp).1).1 (h.obj p hp).2.2.1 (h.obj p hp).2.2.2).trans (h.obj p hp).1, (h.obj p hp).2⟩⟩
theorem Aw2.mono (h : Aw2 w0 b m a b' m' a' k L w) (hk : k ≤ k') : Aw2 w0 b m a b' m' a' k' L w := ⟨h.l1.mono hk, h.l2.mono hk, h.be, h.lo, h.ne, h.obj⟩
theorem Aw2.ptr (h : Aw2 w0 b m a b' m' a' k L w) {g : Nat} {C : Array Value} {t : TypeId} (hg : (g, Obj.cells C t) ∈ L) (j : Nat) : w.cell? ⟨g, j, none⟩ = C[j]? ∧ w.frozen? ⟨g, j, none⟩ = false := by
  have h1 := (h.obj _ hg).1
  constructor
  · simp only [World.cell?, h1]; rfl
  · simp [World.frozen?, h1]
theorem Aw2.none (h : Aw2 w0 b m a b' m' a' k L w) : Aw2 w0 b m a b' m' a' k [] w := ⟨h.l1, h.l2, h.be, h.lo, h.ne, fun p hp => by simp at hp⟩
end
end Go.Proofs.Ytglekbbdbnpohaa.QLn
