/- Lane: the document's lane: what a call knows; find and first. Written by a program of this repo (tools/gen_rlane1.py). -/
import Derived.Test.YtglekbbdbnpohaaZ4Ln
import Derived.Test.YtglekbbdbnpohaaG2Ln
namespace Go.Proofs.Ytglekbbdbnpohaa.QLn
open Go.RowKit Go.Proofs.YtglekbbdbnpohaaW.PrintWords Go.Proofs.YtglekbbdbnpohaaW.PrintLast Go.Proofs.YtglekbbdbnpohaaW.PrintMore
set_option linter.unusedVariables false
set_option linter.unusedSimpArgs false
/-- A block that is not the row's. -/
def offRow (v : Value) (k : Nat) : Prop := ∀ g o n cap, v = .slice (some ⟨g, o, none⟩) n cap → 0 < cap → k ≠ g
theorem RowQ.at {w : World} {B : Nat} {e : TypeId} {sz : Nat} {n : Nat} {xs : List Value} {g o n' cap : Nat} (h : RowQ w B e sz (.slice (some ⟨g, o, none⟩) n' cap) n xs) (hc : 0 < cap) : g < w.heap.size ∧ B ≤ g := by
  obtain ⟨_, h2⟩ := h
  rcases h2 with ⟨_, A, hv⟩ | ⟨g', o', cap', cur, hv, q0, q1, q2, _⟩
  · injection hv with e1 e2 e3
    omega
  · injection hv with e1 e2 e3
    injection e1 with e1
    injection e1 with e4 e5
    subst e4
    exact ⟨(Array.getElem?_eq_some_iff.1 q2).1, q1⟩
theorem RowQ.off {w : World} {B : Nat} {e : TypeId} {sz : Nat} {v : Value} {n : Nat} {xs : List Value} (h : RowQ w B e sz v n xs) {k : Nat} (hk : offRow v k) (o : Nat) (vs : List Value) : RowQ (w.setCells k o vs) B e sz v n xs := by
  obtain ⟨h1, h2⟩ := h
  refine ⟨h1, ?_⟩
  rcases h2 with h2 | ⟨g, o', cap, cur, rfl, q0, q1, q2, q3⟩
  · exact Or.inl h2
  · exact Or.inr ⟨g, o', cap, cur, rfl, q0, q1, (far_setCells (Ne.symm (hk g o' n cap rfl q0)) vs o w).trans q2, q3⟩
/-- What a call of the document's lane knows of its world: the lane, its own boxes, that nothing older has turned but the lane's block. -/
structure Rb (w0 : World) (rb B : Nat) (r : RS) (v : Value) (L : List (Nat × Obj)) (w : World) : Prop where
  rl : RL w rb B r v
  fr : Far rb rb w0 w
  hb : rb < w0.heap.size
  obj : ∀ p ∈ L, w.heap[p.1]? = some p.2 ∧ w0.heap.size ≤ p.1 ∧ offRow v p.1
section
variable {w0 w w' : World} {rb B : Nat} {r r' : RS} {v v' : Value} {L L' : List (Nat × Obj)}
theorem Far.setCells' {b : Nat} {w0 : World} (hn : w0.heap.size ≤ b) (h : Far rb rb w0 w) (o : Nat) (vs : List Value) : Far rb rb w0 (w.setCells b o vs) := by
  obtain ⟨e1, e2, e3, e4⟩ := os_setCells (g := b) vs o w
  exact ⟨e1.trans h.os, e2.trans h.tape, e3.trans h.output, by rw [e4]; exact h.size, fun i hi h1 h2 => (far_setCells (by omega) vs o w).trans (h.block i hi h1 h2)⟩
theorem Rb.start (h : RL w rb B r v) : Rb w rb B r v [] w := ⟨h, Far.refl _ _ _, h.rb, fun p hp => by cases hp⟩
theorem Rb.below (h : Rb w0 rb B r v L w) (j : Below w.heap.size w w') : Rb w0 rb B r v L w' :=
  ⟨h.rl.below j, h.fr.trans (Far.of_below j), h.hb, fun p hp => ⟨obj_below j (h.obj p hp).1, (h.obj p hp).2⟩⟩
theorem Rb.alloc (h : Rb w0 rb B r v L w) (o : Obj) : Rb w0 rb B r v ((w.heap.size, o) :: L) (w.alloc o) := by
  have j := h.below ((Below.refl _ w).alloc (Nat.le_refl _) o)
  refine ⟨j.rl, j.fr, j.hb, fun p hp => ?_⟩
  rcases List.mem_cons.1 hp with rfl | hp
  · refine ⟨World.alloc_heap_new _ _, h.fr.size, fun g o n cap hv hc => ?_⟩
    subst hv
    have := (h.rl.row.at hc).1
    simp only
    omega
  · exact j.obj p hp
theorem Rb.alloc2 (h : Rb w0 rb B r v L w) (o o' : Obj) : Rb w0 rb B r v ((w.heap.size + 1, o') :: (w.heap.size, o) :: L) ((w.alloc o).alloc o') := by
  have e : (w.alloc o).heap.size = w.heap.size + 1 := by show (w.heap.push o).size = _; rw [Array.size_push]
  have h1 := (h.alloc o).alloc o'
  rw [e] at h1
  exact h1
theorem Rb.sub (h : Rb w0 rb B r v L w) (hs : ∀ p ∈ L', p ∈ L) : Rb w0 rb B r v L' w := ⟨h.rl, h.fr, h.hb, fun p hp => h.obj p (hs p hp)⟩
theorem Rb.nil (h : Rb w0 rb B r v L w) : Rb w0 rb B r v [] w := h.sub (fun p hp => by cases hp)
theorem Rb.box (h : Rb w0 rb B r v L w) (g : Nat) (C : Array Value) (t : TypeId) (hg : (g, Obj.cells C t) ∈ L) (o : Nat) (vs : List Value)
    (hL : ∀ p ∈ L', p = (g, Obj.cells (QLn.setAll C o vs) t) ∨ (p ∈ L ∧ p.1 ≠ g)) : Rb w0 rb B r v L' (w.setCells g o vs) := by
  obtain ⟨h1, h2, h3⟩ := h.obj _ hg
  simp only at h1 h2 h3
  have hne : rb ≠ g := by have := h.hb; omega
  obtain ⟨e1, e2, e3, e4⟩ := os_setCells (g := g) vs o w
  refine ⟨⟨(far_setCells hne vs o w).trans h.rl.blk, h.rl.row.off h3 o vs, h.rl.lt, by rw [e4]; exact h.rl.sz, h.rl.len⟩, ?_, h.hb, fun p hp => ?_⟩
  · exact h.fr.setCells' h2 o vs
  · rcases hL p hp with rfl | ⟨hp, hn⟩
    · exact ⟨blk_setCells vs o C w h1, h2, h3⟩
    · exact ⟨(far_setCells hn vs o w).trans (h.obj p hp).1, (h.obj p hp).2⟩
theorem Rb.blk (h : Rb w0 rb B r v L w) {g : Nat} {C : Array Value} {t : TypeId} (hg : (g, Obj.cells C t) ∈ L) : w.heap[g]? = some (.cells C t (0, 0)) := (h.obj _ hg).1
theorem Rb.ptr (h : Rb w0 rb B r v L w) {g : Nat} {C : Array Value} {t : TypeId} (hg : (g, Obj.cells C t) ∈ L) (j : Nat) : w.cell? ⟨g, j, none⟩ = C[j]? ∧ w.frozen? ⟨g, j, none⟩ = false := by
  have h1 := (h.obj _ hg).1
  constructor
  · simp only [World.cell?, h1]; rfl
  · simp [World.frozen?, h1]
end
section
variable {w0 w w' : World} {rb B : Nat} {r r' : RS} {v v' : Value} {L L' : List (Nat × Obj)}
/-- A new row is put into the lane. -/
theorem Rb.setL (h : Rb w0 rb B r v L w) {B' : Nat} {l : List Ms} (hr : RowQ w B' 81 7 v' l.length (fM l)) (hB : B ≤ B') (hl : l.length ≤ 64) (hL : ∀ p ∈ L', p ∈ L ∧ p.1 < B') : Rb w0 rb B { r with L := l } v' L' (w.setCell ⟨rb, 4, none⟩ v') := by
  have hb := blk_set h.rl.blk 4 v'
  have hoff : offRow v' rb := fun g o n cap hv hc => by subst hv; have := (hr.at hc).2; have := h.rl.lt; omega
  refine ⟨⟨hb, (hr.off hoff 4 [v']).base hB, h.rl.lt, ?_, ⟨hl, h.rl.len.2⟩⟩, h.fr.setCell 4 v', h.hb, fun p hp => ?_⟩
  · show B ≤ (w.setCell _ _).heap.size
    rw [show (w.setCell ⟨rb, 4, none⟩ v').heap.size = w.heap.size by simp [World.setCell]]
    exact h.rl.sz
  · obtain ⟨h1, h2, h3⟩ := h.obj p (hL p hp).1
    refine ⟨(Below.heap_setCell _ _ _ _ (by have := h.hb; simp only; omega)).trans h1, h2, fun g o n cap hv hc => ?_⟩
    subst hv
    have := (hr.at hc).2
    have := (hL p hp).2
    omega
/-- A field of the lane is another one. -/
theorem Rb.setF (h : Rb w0 rb B r v L w) (k : Nat) (u : Value) (hr : (rC r v).setIfInBounds k u = rC r' v) (hL : r'.L = r.L) (hc : r'.credit = r.credit) : Rb w0 rb B r' v L (w.setCell ⟨rb, k, none⟩ u) := by
  have hb := blk_set h.rl.blk k u
  have hoff : offRow v rb := fun g o n cap hv hc => by subst hv; have := (h.rl.row.at hc).2; have := h.rl.lt; omega
  refine ⟨⟨by rw [← hr]; exact hb, by rw [hL]; exact h.rl.row.off hoff k [u], h.rl.lt, ?_, by rw [hL, hc]; exact h.rl.len⟩, h.fr.setCell k u, h.hb, fun p hp => ?_⟩
  · rw [show (w.setCell ⟨rb, k, none⟩ u).heap.size = w.heap.size by simp [World.setCell]]
    exact h.rl.sz
  · obtain ⟨h1, h2, h3⟩ := h.obj p hp
    exact ⟨(Below.heap_setCell _ _ _ _ (by have := h.hb; simp only; omega)).trans h1, h2, h3⟩
end
/-- The first message that is so: its place, or -1. -/
def Fnd (l : List Ms) (p : Ms → Prop) (res : Int) : Prop := (∃ i, i < l.length ∧ res = (i : Int) ∧ (∃ m, l[i]? = some m ∧ p m) ∧ ∀ (k : Nat) m, k < i → l[k]? = some m → ¬ p m) ∨ (res = -1 ∧ ∀ (k : Nat) m, l[k]? = some m → ¬ p m)
theorem no_step {l : List Ms} {p : Ms → Prop} {i : Nat} {m : Ms} (h : ∀ (k : Nat) m, k < i → l[k]? = some m → ¬ p m) (hm : l[i]? = some m) (hp : ¬ p m) : ∀ (k : Nat) m, k < i + 1 → l[k]? = some m → ¬ p m := by
  intro k m' hk hk'
  rcases Nat.lt_or_ge k i with hl | hl
  · exact h k m' hl hk'
  · have : k = i := by omega
    subst this
    rw [hm] at hk'
    cases hk'
    exact hp
theorem no_end {l : List Ms} {p : Ms → Prop} {i : Nat} (h : ∀ (k : Nat) m, k < i → l[k]? = some m → ¬ p m) (hi : l.length ≤ i) : ∀ (k : Nat) m, l[k]? = some m → ¬ p m := fun k m hk => h k m (by have := (List.getElem?_eq_some_iff.1 hk).1; omega) hk
set_option maxRecDepth 100000 in
set_option maxHeartbeats 4000000 in
theorem find_calls {w : World} {rb B : Nat} {r : RS} {v : Value} (h : RL w rb B r v) (q ep f t : Int) : Calls Try.prog 41 #[.pointer (some ⟨rb, 0, none⟩), .agg (aTick q ep), .int .i64 f, .int .i64 t] w fun e w' =>
    ∃ res : Int, e = .returned (.int .i64 res) ∧ Fnd r.L (fun m => ep = r.epoch ∧ m.q = q ∧ f ≤ m.is ∧ m.is ≤ t) res ∧ Below w.heap.size w w' := by
  obtain ⟨A, c, rfl, hc⟩ := h.form
  have HLEN := Aside0.mk h.len.1
  have HB0 := Aside0.mk ((Rb.start h).alloc (.cells (aTick q ep) 34))
  clear h
  go_enter Try.func41, Try.ntmps41
  go_upto_region 1 with fail
  have HW0 : Aside0 (Below w.heap.size w (w.alloc (.cells (aTick q ep) 34))) := ⟨(Below.refl _ _).alloc (Nat.le_refl _) _⟩
  generalize hw0 : w.alloc (.cells (aTick q ep) 34) = w0 at HB0 HW0 ⊢
  clear hw0
  go_wp2
  have HQ0 : Aside0 (Rb w rb B r (.slice A r.L.length c) [(w.heap.size, .cells (aTick q ep) 34)] w0 ∧ Below w.heap.size w w0 ∧ ∀ (k : Nat) m, k < 0 → r.L[k]? = some m → ¬ (fun m => ep = r.epoch ∧ m.q = q ∧ f ≤ m.is ∧ m.is ≤ t) m) := ⟨⟨HB0.out, HW0.out, fun k m hk => by omega⟩⟩
  go_loopw [9] (fun i wr => ∃ i0 : Nat, i0 ≤ r.L.length ∧ i = .int .i64 (i0 : Int) ∧ Aside0 (Rb w rb B r (.slice A r.L.length c) [(w.heap.size, .cells (aTick q ep) 34)] wr ∧ Below w.heap.size w wr ∧ ∀ (k : Nat) m, k < i0 → r.L[k]? = some m → ¬ (fun m => ep = r.epoch ∧ m.q = q ∧ f ≤ m.is ∧ m.is ≤ t) m)) (fun i _ => r.L.length - (intOf i).toNat)
  case atStart => exact ⟨0, Nat.zero_le _, rfl, HQ0⟩
  case round =>
    clear HQ0 HB0 HW0
    obtain ⟨i, hil, rfl, HS⟩ := hrel
    obtain ⟨c0, c1, c2, c3, c4⟩ := HS.out.1.rl.cells
    by_cases hlt : i < r.L.length
    · have x1 : decide ((i : Int) < (r.L.length : Int)) = true := decide_eq_true (Int.ofNat_lt.2 hlt)
      have x1' : decide (i < r.L.length) = true := decide_eq_true hlt
      have b1 : (0 : Int) ≤ (i : Int) := Int.natCast_nonneg i
      have b2 : (i : Int) < (r.L.length : Int) := Int.ofNat_lt.2 hlt
      have ht : ((i : Int)).toNat = i := Int.toNat_natCast i
      have hwi : wrap64 ((i : Int) + 1) = (i : Int) + 1 := w64_nat (Nat.lt_of_lt_of_le hlt (Nat.le_trans HLEN.out (by decide)))
      have HHi : Aside0 (r.L.length - ((i : Int) + 1).toNat < r.L.length - ((i : Int)).toNat) := ⟨meas_nat hlt⟩
      have HL : Aside0 (i + 1 ≤ r.L.length) := ⟨hlt⟩
      have HE : Aside0 (r.L[i]? = some r.L[i]) := ⟨List.getElem?_eq_getElem hlt⟩
      obtain ⟨gT, oT, rfl, m0, m1, m2, m3, m4, m5, m6⟩ := HS.out.1.rl.msg HE.out
      generalize r.L[i] = m at HE m0 m1 m2 m3 m4 m5 m6
      clear c0 c1 c2 m2 m3 m4 m5 m6
      have z0 : wr.cell? ⟨w.heap.size, 0, none⟩ = some (.int .u64 q) := (HS.out.1.ptr (C := aTick q ep) (t := 34) (by simp) 0).1
      have z1 : wr.cell? ⟨w.heap.size, 1, none⟩ = some (.int .u64 ep) := (HS.out.1.ptr (C := aTick q ep) (t := 34) (by simp) 1).1
      by_cases h1 : ep = r.epoch
      · have k1 : (ep == r.epoch) = true := by simp [h1]
        by_cases h2 : m.q = q
        · have k2 : (m.q == q) = true := by simp [h2]
          by_cases h3 : f ≤ m.is
          · have k3 : decide (m.is ≥ f) = true := decide_eq_true h3
            have k3' : decide (f ≤ m.is) = true := decide_eq_true h3
            by_cases h4 : m.is ≤ t
            · have k4 : decide (m.is ≤ t) = true := decide_eq_true h4
              have HP : Aside0 ((fun m => ep = r.epoch ∧ m.q = q ∧ f ≤ m.is ∧ m.is ≤ t) m) := ⟨⟨h1, h2, h3, h4⟩⟩
              clear h1 h2 h3 h4
              go_upto_region 4 with fail
              clear c4 x1 x1'
              have c4 := HS.out.1.rl.cells.2.2.2.2
              go_quiet (fail)
              have HS2 := Aside0.mk (And.intro (HS.out.1.below (pw_below_drewN (Below.refl _ _) nq)) (HS.out.2.1.trans ((pw_below_drewN (Below.refl _ _) nq).mono HS.out.2.1.size)))
              go_wp2
              go_ret
              exact ⟨_, rfl, Or.inl ⟨i, HL.out, rfl, ⟨m, HE.out, HP.out⟩, HS.out.2.2⟩, HS2.out.2⟩
            · have k4 : decide (m.is ≤ t) = false := decide_eq_false h4
              have HN := Aside0.mk h4
              clear h1 h2 h3 h4
              go_upto_region 4 with fail
              clear c4 x1 x1'
              have c4 := HS.out.1.rl.cells.2.2.2.2
              go_quiet (fail)
              have HS2 := Aside0.mk (And.intro (HS.out.1.below (pw_below_drewN (Below.refl _ _) nq)) (HS.out.2.1.trans ((pw_below_drewN (Below.refl _ _) nq).mono HS.out.2.1.size)))
              go_wp2
              go_roundw
              case rel => exact ⟨i + 1, HL.out, (by first | rfl | (rw [hwi]; rfl)), ⟨HS2.out.1, HS2.out.2, no_step HS.out.2.2 HE.out (fun hp => HN.out hp.2.2.2)⟩⟩
              case measure => first | exact HHi.out | (simp only [hwi]; exact HHi.out)
          · have k3 : decide (m.is ≥ f) = false := decide_eq_false h3
            have k3' : decide (f ≤ m.is) = false := decide_eq_false h3
            have HN := Aside0.mk h3
            clear h1 h2 h3
            go_upto_region 4 with fail
            clear c4 x1 x1'
            have c4 := HS.out.1.rl.cells.2.2.2.2
            go_quiet (fail)
            have HS2 := Aside0.mk (And.intro (HS.out.1.below (pw_below_drewN (Below.refl _ _) nq)) (HS.out.2.1.trans ((pw_below_drewN (Below.refl _ _) nq).mono HS.out.2.1.size)))
            go_wp2
            go_roundw
            case rel => exact ⟨i + 1, HL.out, (by first | rfl | (rw [hwi]; rfl)), ⟨HS2.out.1, HS2.out.2, no_step HS.out.2.2 HE.out (fun hp => HN.out hp.2.2.1)⟩⟩
            case measure => first | exact HHi.out | (simp only [hwi]; exact HHi.out)
        · have k2 : (m.q == q) = false := by simp [h2]
          have HN := Aside0.mk h2
          clear h1 h2
          go_upto_region 4 with fail
          clear c4 x1 x1'
          have c4 := HS.out.1.rl.cells.2.2.2.2
          go_quiet (fail)
          have HS2 := Aside0.mk (And.intro (HS.out.1.below (pw_below_drewN (Below.refl _ _) nq)) (HS.out.2.1.trans ((pw_below_drewN (Below.refl _ _) nq).mono HS.out.2.1.size)))
          go_wp2
          go_roundw
          case rel => exact ⟨i + 1, HL.out, (by first | rfl | (rw [hwi]; rfl)), ⟨HS2.out.1, HS2.out.2, no_step HS.out.2.2 HE.out (fun hp => HN.out hp.2.1)⟩⟩
          case measure => first | exact HHi.out | (simp only [hwi]; exact HHi.out)
      · have k1 : (ep == r.epoch) = false := by simp [h1]
        have HN := Aside0.mk h1
        clear h1
        go_upto_region 4 with fail
        clear c4 x1 x1'
        have c4 := HS.out.1.rl.cells.2.2.2.2
        go_quiet (fail)
        have HS2 := Aside0.mk (And.intro (HS.out.1.below (pw_below_drewN (Below.refl _ _) nq)) (HS.out.2.1.trans ((pw_below_drewN (Below.refl _ _) nq).mono HS.out.2.1.size)))
        go_wp2
        go_roundw
        case rel => exact ⟨i + 1, HL.out, (by first | rfl | (rw [hwi]; rfl)), ⟨HS2.out.1, HS2.out.2, no_step HS.out.2.2 HE.out (fun hp => HN.out hp.1)⟩⟩
        case measure => first | exact HHi.out | (simp only [hwi]; exact HHi.out)
    · have x1 : decide ((i : Int) < (r.L.length : Int)) = false := decide_eq_false (fun h => hlt (Int.ofNat_lt.1 h))
      have x1' : decide (i < r.L.length) = false := decide_eq_false hlt
      have HNO := Aside0.mk (no_end HS.out.2.2 (Nat.le_of_not_lt hlt))
      have HS2 := Aside0.mk (And.intro HS.out.1 HS.out.2.1)
      clear hlt hil HS
      go_wp2
      go_ret
      exact ⟨_, rfl, Or.inr ⟨rfl, HNO.out⟩, HS2.out.2⟩
set_option maxRecDepth 100000 in
set_option maxHeartbeats 4000000 in
theorem first_calls {w : World} {rb B : Nat} {r : RS} {v : Value} (h : RL w rb B r v) : Calls Try.prog 43 #[.pointer (some ⟨rb, 0, none⟩)] w fun e w' =>
    ∃ res : Int, e = .returned (.int .i64 res) ∧ Fnd r.L (fun m => m.is = 2) res ∧ Below w.heap.size w w' := by
  obtain ⟨A, c, rfl, hc⟩ := h.form
  have HLEN := Aside0.mk h.len.1
  have HB0 := Aside0.mk (Rb.start h)
  have HW0 : Aside0 (Below w.heap.size w w) := ⟨Below.refl _ _⟩
  clear h
  go_enter Try.func43, Try.ntmps43
  go_wp2
  have HQ0 : Aside0 (Rb w rb B r (.slice A r.L.length c) [] w ∧ Below w.heap.size w w ∧ ∀ (k : Nat) m, k < 0 → r.L[k]? = some m → ¬ (fun m => m.is = 2) m) := ⟨⟨HB0.out, HW0.out, fun k m hk => by omega⟩⟩
  go_loopw [3] (fun i wr => ∃ i0 : Nat, i0 ≤ r.L.length ∧ i = .int .i64 (i0 : Int) ∧ Aside0 (Rb w rb B r (.slice A r.L.length c) [] wr ∧ Below w.heap.size w wr ∧ ∀ (k : Nat) m, k < i0 → r.L[k]? = some m → ¬ (fun m => m.is = 2) m)) (fun i _ => r.L.length - (intOf i).toNat)
  case atStart => exact ⟨0, Nat.zero_le _, rfl, HQ0⟩
  case round =>
    clear HQ0 HB0 HW0
    obtain ⟨i, hil, rfl, HS⟩ := hrel
    obtain ⟨c0, c1, c2, c3, c4⟩ := HS.out.1.rl.cells
    by_cases hlt : i < r.L.length
    · have x1 : decide ((i : Int) < (r.L.length : Int)) = true := decide_eq_true (Int.ofNat_lt.2 hlt)
      have x1' : decide (i < r.L.length) = true := decide_eq_true hlt
      have b1 : (0 : Int) ≤ (i : Int) := Int.natCast_nonneg i
      have b2 : (i : Int) < (r.L.length : Int) := Int.ofNat_lt.2 hlt
      have ht : ((i : Int)).toNat = i := Int.toNat_natCast i
      have hwi : wrap64 ((i : Int) + 1) = (i : Int) + 1 := w64_nat (Nat.lt_of_lt_of_le hlt (Nat.le_trans HLEN.out (by decide)))
      have HHi : Aside0 (r.L.length - ((i : Int) + 1).toNat < r.L.length - ((i : Int)).toNat) := ⟨meas_nat hlt⟩
      have HL : Aside0 (i + 1 ≤ r.L.length) := ⟨hlt⟩
      have HE : Aside0 (r.L[i]? = some r.L[i]) := ⟨List.getElem?_eq_getElem hlt⟩
      obtain ⟨gT, oT, rfl, m0, m1, m2, m3, m4, m5, m6⟩ := HS.out.1.rl.msg HE.out
      generalize r.L[i] = m at HE m0 m1 m2 m3 m4 m5 m6
      clear c0 c1 c2 m2 m3 m4 m5 m6
      by_cases h1 : m.is = 2
      · have k1 : (m.is == 2) = true := by simp [h1]
        have HP := Aside0.mk h1
        clear h1
        have HS2 := Aside0.mk (And.intro HS.out.1 HS.out.2.1)
        go_wp2
        go_ret
        exact ⟨_, rfl, Or.inl ⟨i, HL.out, rfl, ⟨m, HE.out, HP.out⟩, HS.out.2.2⟩, HS2.out.2⟩
      · have k1 : (m.is == 2) = false := by simp [h1]
        have HN := Aside0.mk h1
        clear h1
        have HS2 := Aside0.mk (And.intro HS.out.1 HS.out.2.1)
        go_wp2
        go_roundw
        case rel => exact ⟨i + 1, HL.out, (by first | rfl | (rw [hwi]; rfl)), ⟨HS2.out.1, HS2.out.2, no_step HS.out.2.2 HE.out (HN.out)⟩⟩
        case measure => first | exact HHi.out | (simp only [hwi]; exact HHi.out)
    · have x1 : decide ((i : Int) < (r.L.length : Int)) = false := decide_eq_false (fun h => hlt (Int.ofNat_lt.1 h))
      have x1' : decide (i < r.L.length) = false := decide_eq_false hlt
      have HNO := Aside0.mk (no_end HS.out.2.2 (Nat.le_of_not_lt hlt))
      have HS2 := Aside0.mk (And.intro HS.out.1 HS.out.2.1)
      clear hlt hil HS
      go_wp2
      go_ret
      exact ⟨_, rfl, Or.inr ⟨rfl, HNO.out⟩, HS2.out.2⟩
end Go.Proofs.Ytglekbbdbnpohaa.QLn
