/- Decode: the pieces of a tick (decode.pieces, decode.Tick). -/
import Derived.Test.YtoliipbmcekciaaDoorIDc
import Derived.RangeFuncBox
import Derived.Maps.AppendAt
namespace Go.Proofs.YtoliipbmcekciaaDoor.QDc
open Go.RowKit Go.Shelf Go.Proofs.YtoliipbmcekciaaDoorW.PrintWords Go.Proofs.YtoliipbmcekciaaDoorW.PrintLast Go.Proofs.YtoliipbmcekciaaDoorW.PrintMore
set_option linter.unusedVariables false
set_option linter.unusedSimpArgs false
attribute [local go_sem] Oper.semAt_some
set_option maxRecDepth 100000 in
set_option maxHeartbeats 2000000 in
theorem pieces_calls (c0 c1 c2 c3 c4 c5 c6 c7 t0 t1 : Value) (owner : Int) (w : World) :
    Calls Tryd.prog 32 #[.agg #[c0, c1, c2, c3, c4, c5, c6, c7], .agg #[t0, t1], .int .i64 owner] w fun e w' => e = .returned (.func (.func 59) #[] #[.pointer (some ⟨w.heap.size + 1 + 1, 0, none⟩), .pointer (some ⟨w.heap.size + 1, 0, none⟩), .pointer (some ⟨w.heap.size, 0, none⟩)]) ∧ w' = ((w.alloc (.cells #[c0, c1, c2, c3, c4, c5, c6, c7] 28)).alloc (.cells #[t0, t1] 31)).alloc (.cells #[.int .i64 owner] 3) := by
  go_enter Tryd.func32, Tryd.ntmps32
  go_wp2
  go_ret
  exact ⟨rfl, rfl⟩
abbrev flatAsk (l : List S75) : List Value := l.flatMap fun x => (cAsk x).toList
theorem flatAsk_snoc (l : List S75) (x : S75) : flatAsk (l ++ [x]) = flatAsk l ++ (cAsk x).toList := by simp [flatAsk]
theorem pcs_short (l : List Int) (reqs : Int) (h : l.length ≤ 1000) : (pcs l reqs).length ≤ 1000 := by unfold pcs; rw [List.length_map, List.length_range]; omega
theorem items_short {B : List (List Int)} (h : ∀ x ∈ B, x.length ≤ 1000) (owner reqs : Int) : (items B owner reqs).length ≤ 1000 := by
  unfold items
  split
  · simp
  · rename_i hn
    rw [List.length_map]
    refine pcs_short _ _ ?_
    have hlt : owner.toNat < B.length := by omega
    rw [List.getD_eq_getElem?_getD, List.getElem?_eq_getElem hlt]
    exact h _ (List.getElem_mem hlt)
theorem Kp_t {n₀ : Nat} {A B C : World} (h : Kp n₀ A B) (k : Kp n₀ B C) : Kp n₀ A C := ⟨h.1.trans k.1, fun b cs t h1 h2 hb => k.2 b cs t h1 h2 (h.2 b cs t h1 h2 hb)⟩
theorem Kp_b {n₀ : Nat} {w : World} (hn : n₀ ≤ w.heap.size) (W : World) (l : Nat) (o o' : Obj) (hl : w.heap.size ≤ l) (h : W.heap[l]? = some o) (h1 : o.isCells = false) (h2 : o.isWalk = false) : Kp n₀ W (W.putObj l o') := by
  refine ⟨belowK_b hn W l o o' hl h h1 h2, fun b cs t _ _ hb => ?_⟩
  have hne : b ≠ l := fun e => by subst e; rw [hb] at h; cases h; cases h1
  exact ((grownBy_putObj' W l o').block b (Array.getElem?_eq_some_iff.1 hb).1 (fun e => hne (Option.some.inj e))).trans hb
theorem cells_new (W : World) (cs : Array Value) (t : TypeId) (j : Nat) (u : Value) (h : cs.toList[j]? = some u) : (W.alloc (.cells cs t)).cell? (Addr.add ⟨W.heap.size, 0, none⟩ j) = some u := by
  have e : cs[j]? = some u := by rw [← Array.getElem?_toList]; exact h
  have e2 : (Addr.add ⟨W.heap.size, 0, none⟩ j) = ⟨W.heap.size, j, none⟩ := by rw [Addr.add_mid, Nat.zero_add]
  rw [e2]
  simp only [World.cell?]
  rw [World.alloc_heap_new]
  simpa using e
theorem ones_ask (x : S75) : ∀ u ∈ (cAsk x).toList, u.oneCell' = true := by
  intro u hu
  simp only [List.mem_cons, List.not_mem_nil, or_false] at hu
  rcases hu with rfl | rfl | rfl | rfl | rfl | rfl <;> rfl
/-- Behind an append and the store of what it made: blocks of other types are as they were. -/
theorem Kp_app {W w1 : World} {n₀ B : Nat} {v v' : Value} {k m : Nat} {xs ys : List Value} {tmp : Obj} (hrow : W.ownsRow n₀ 75 6 v k xs) (hv : Boxed W B 34 v) (hB : n₀ ≤ B) (hown' : w1.ownsRow n₀ 75 6 v' m ys) (hgrow : (W.alloc tmp).grownBy w1 v.ownBlock) :
    ∀ (b : Nat) (cs : Array Value) (t : TypeId), t ≠ 34 → t ≠ 75 → W.heap[b]? = some (Obj.cells cs t (0, 0)) → (w1.setCell ⟨B, 0, none⟩ v').heap[b]? = some (Obj.cells cs t (0, 0)) := by
  intro b cs t h34 h75 hb
  have hne : b ≠ B := fun e => by subst e; rw [show W.heap[b]? = _ from hv] at hb; cases hb; exact h34 rfl
  have hlt := (Array.getElem?_eq_some_iff.1 hb).1
  rw [Below.heap_setCell _ _ _ b (by simpa using hne)]
  refine (hgrow.block b (by simp; omega) (fun e => ?_)).trans (((World.grownBy_alloc W tmp none).block b hlt (by simp)).trans hb)
  rcases hrow.2 with ⟨rfl, _⟩ | ⟨g, cap, cur, rfl, _, hgb, _⟩
  · simp [Value.ownBlock] at e
  · obtain rfl : b = g := by simpa [Value.ownBlock] using e
    rw [hgb] at hb; cases hb; exact h75 rfl
/-- The contract of the value that pieces hands back. -/
theorem pieces_seq (w W : World) (bo bt bc : Nat) (owner reqs : Int) (A : Option Addr) (c : Nat) (B : List (List Int)) (h : Cap w W bo bt bc owner reqs A c B) (h1 : bo < W.heap.size) (h2 : bt < W.heap.size) (h3 : bc < W.heap.size) :
    SeqStopsK Fence.wide 1 Tryd.prog 59 #[.pointer (some ⟨bo, 0, none⟩), .pointer (some ⟨bt, 0, none⟩), .pointer (some ⟨bc, 0, none⟩)] (fun x : S75 => #[.agg (cAsk x)]) (Kp w.heap.size) (fun l => l = items B owner reqs) (fun l => l <+: items B owner reqs) (items B owner reqs).length W := by
  intro l J Jx W' hb hJ hJx hY h0
  have h' : Cap w W' bo bt bc owner reqs A c B := ⟨h.below.trans (hb.mono h.below.size), pw_cell_below hb h.owner, pw_cell_below hb h.tick, pw_cell_below hb h.reqs, h.len, h.read, h.short, h.glob⟩
  refine callsIn_wide.2 ?_
  by_cases hn : owner < 0 ∨ (B.length : Int) ≤ owner
  · refine (pieces1_not l w W' bo bt bc owner reqs A c B h' hn).mono ?_
    rintro e w1 ⟨rfl, rfl⟩
    exact ⟨⟨_, rfl⟩, .inl ⟨[], by unfold items; rw [if_pos hn], h0⟩⟩
  · exact pieces1_in l w W' bo bt bc owner reqs A c B h' (by omega) (by omega) J Jx hJ h0 hY
set_option maxRecDepth 100000 in
set_option maxHeartbeats 4000000 in
theorem Tick_walk (c0 c1 c2 c3 c4 c5 c7 t1 : Value) (owner reqs : Int) (A : Option Addr) (c : Nat) (B : List (List Int)) (w : World) (hlen : B.length ≤ c) (hread : Kd.C (Kd.slice 5 (Kd.int .u8)) w A B.length B) (hshort : ∀ x ∈ B, x.length ≤ 1000) (hglob : Glob w) :
    Calls Tryd.prog 12 #[.agg #[c0, c1, c2, c3, c4, c5, .int .i64 reqs, c7], .agg #[.slice A B.length c, t1], .int .i64 owner] w fun e w' => ∃ v, e = .returned v ∧ w'.ownsRow w.heap.size 75 6 v (items B owner reqs).length (flatAsk (items B owner reqs)) ∧ Below w.heap.size w w' := by
  have hit := items_short hshort owner reqs
  obtain ⟨i0, hi, hz0, hz1, hz2⟩ := info_parts info75
  have HR := Aside0.mk (And.intro hlen (And.intro hread (And.intro hshort hglob)))
  clear hlen hread hshort hglob
  refine (callsIn_wide (n := 2)).1 ?_
  refine callsIn_of_wp_marks Tryd.func12 rfl trivial ?_ rfl
  simp only [Tryd.ntmps12, List.size_toArray, List.length_cons, List.length_nil, Nat.reduceAdd, Nat.reduceSub, Array.replicate_succ, Array.replicate_zero, List.push_toArray, List.append_toArray, List.nil_append, List.cons_append]
  gi_wp2
  refine ⟨trivial, (callsIn_wide.2 (pieces_calls _ _ _ _ _ _ _ _ _ _ _ _)).mono ?_⟩
  rintro e w2 ⟨rfl, rfl⟩
  gi_wp2
  have x6 := Boxed.new (((((w.alloc (Obj.cells #[c0, c1, c2, c3, c4, c5, Value.int IntKind.i64 reqs, c7] 28)).alloc (Obj.cells #[Value.slice A B.length c, t1] 31)).alloc (Obj.cells #[Value.slice none 0 0] 34)).alloc (Obj.cells #[c0, c1, c2, c3, c4, c5, Value.int IntKind.i64 reqs, c7] 28)).alloc (Obj.cells #[Value.slice A B.length c, t1] 31)) 3 (.int .i64 owner)
  have x5 : ((((((w.alloc (Obj.cells #[c0, c1, c2, c3, c4, c5, Value.int IntKind.i64 reqs, c7] 28)).alloc (Obj.cells #[Value.slice A B.length c, t1] 31)).alloc (Obj.cells #[Value.slice none 0 0] 34)).alloc (Obj.cells #[c0, c1, c2, c3, c4, c5, Value.int IntKind.i64 reqs, c7] 28)).alloc (Obj.cells #[Value.slice A B.length c, t1] 31)).alloc (Obj.cells #[Value.int IntKind.i64 owner] 3)).cell? ⟨w.heap.size + 1 + 1 + 1 + 1, 0, none⟩ = some (.slice A B.length c) := by go_simp
  have x4 : ((((((w.alloc (Obj.cells #[c0, c1, c2, c3, c4, c5, Value.int IntKind.i64 reqs, c7] 28)).alloc (Obj.cells #[Value.slice A B.length c, t1] 31)).alloc (Obj.cells #[Value.slice none 0 0] 34)).alloc (Obj.cells #[c0, c1, c2, c3, c4, c5, Value.int IntKind.i64 reqs, c7] 28)).alloc (Obj.cells #[Value.slice A B.length c, t1] 31)).alloc (Obj.cells #[Value.int IntKind.i64 owner] 3)).cell? ⟨w.heap.size + 1 + 1 + 1, 6, none⟩ = some (.int .i64 reqs) := by go_simp
  have x3 := (((Boxed.new ((w.alloc (Obj.cells #[c0, c1, c2, c3, c4, c5, Value.int IntKind.i64 reqs, c7] 28)).alloc (Obj.cells #[Value.slice A B.length c, t1] 31)) 34 (.slice none 0 0)).alloc (Obj.cells #[c0, c1, c2, c3, c4, c5, Value.int IntKind.i64 reqs, c7] 28)).alloc (Obj.cells #[Value.slice A B.length c, t1] 31)).alloc (Obj.cells #[Value.int IntKind.i64 owner] 3)
  have xb : Below w.heap.size w ((((((w.alloc (Obj.cells #[c0, c1, c2, c3, c4, c5, Value.int IntKind.i64 reqs, c7] 28)).alloc (Obj.cells #[Value.slice A B.length c, t1] 31)).alloc (Obj.cells #[Value.slice none 0 0] 34)).alloc (Obj.cells #[c0, c1, c2, c3, c4, c5, Value.int IntKind.i64 reqs, c7] 28)).alloc (Obj.cells #[Value.slice A B.length c, t1] 31)).alloc (Obj.cells #[Value.int IntKind.i64 owner] 3)) := ((((((Below.refl _ w).alloc (Nat.le_refl _) _).alloc (by simp) _).alloc (by simp; omega) _).alloc (by simp; omega) _).alloc (by simp; omega) _).alloc (by simp; omega) _
  have xs : ((((((w.alloc (Obj.cells #[c0, c1, c2, c3, c4, c5, Value.int IntKind.i64 reqs, c7] 28)).alloc (Obj.cells #[Value.slice A B.length c, t1] 31)).alloc (Obj.cells #[Value.slice none 0 0] 34)).alloc (Obj.cells #[c0, c1, c2, c3, c4, c5, Value.int IntKind.i64 reqs, c7] 28)).alloc (Obj.cells #[Value.slice A B.length c, t1] 31)).alloc (Obj.cells #[Value.int IntKind.i64 owner] 3)).heap.size = w.heap.size + 6 := by simp
  simp only [World.size_alloc] at x6 x3
  generalize ((((((w.alloc (Obj.cells #[c0, c1, c2, c3, c4, c5, Value.int IntKind.i64 reqs, c7] 28)).alloc (Obj.cells #[Value.slice A B.length c, t1] 31)).alloc (Obj.cells #[Value.slice none 0 0] 34)).alloc (Obj.cells #[c0, c1, c2, c3, c4, c5, Value.int IntKind.i64 reqs, c7] 28)).alloc (Obj.cells #[Value.slice A B.length c, t1] 31)).alloc (Obj.cells #[Value.int IntKind.i64 owner] 3)) = W0 at x6 x5 x4 x3 xb xs ⊢

  have hcap : Cap w W0 (w.heap.size + 1 + 1 + 1 + 1 + 1) (w.heap.size + 1 + 1 + 1 + 1) (w.heap.size + 1 + 1 + 1) owner reqs A c B := ⟨xb, x6.cell, x5, x4, HR.out.1, HR.out.2.1, HR.out.2.2.1, HR.out.2.2.2⟩
  refine wpIn_rangeFunc_ownH (F := Fence.wide) (n := 2) (by rfl) (by decide) (gf := 59) (lb := #[.pointer (some ⟨w.heap.size + 1 + 1 + 1 + 1 + 1, 0, none⟩), .pointer (some ⟨w.heap.size + 1 + 1 + 1 + 1, 0, none⟩), .pointer (some ⟨w.heap.size + 1 + 1 + 1, 0, none⟩)]) (by rfl) (by trivial) (enters_of Tryd.func59 (by kernel_rfl) rfl)
    (pieces_seq w W0 _ _ _ owner reqs A c B hcap (by omega) (by omega) (by omega)) Kp_t (Kp_b (by omega)) (Below.refl _ _) (fun _ => rfl)
    (fun pre W => (∃ v, Boxed W (w.heap.size + 1 + 1) 34 v ∧ W.ownsRow w.heap.size 75 6 v pre.length (flatAsk pre) ∧ True) ∧ Below w.heap.size w W)
    (fun _ _ _ => False)
    (OwnFrom.and (Own.from (holdsRow_own w.heap.size (w.heap.size + 1 + 1) 34 75 6 (fun pre => pre.length) flatAsk (fun _ _ => True)) _) (ownFrom_below (Nat.le_refl _) (by omega)))
    (fun _ _ _ _ _ hs _ _ => hs)
    ⟨⟨_, x3, ⟨rfl, .inl ⟨rfl, rfl⟩⟩, trivial⟩, xb⟩
    (fun x a' W => ∃ Bx, w.heap.size + 1 + 1 < Bx ∧ W.heap[Bx]? = some (.cells (cAsk x) 75 (0, 0)) ∧ ∃ z13, a' = { tmps := #[.agg #[c0, c1, c2, c3, c4, c5, .int .i64 reqs, c7], .agg #[.slice A B.length c, t1], .int .i64 owner, .pointer (some ⟨w.heap.size, 0, none⟩), .pointer (some ⟨w.heap.size + 1, 0, none⟩), undef, .slice none 0 0, .pointer (some ⟨w.heap.size + 1 + 1, 0, none⟩), .pointer (some ⟨Bx, 0, none⟩), .agg #[c0, c1, c2, c3, c4, c5, .int .i64 reqs, c7], .agg #[.slice A B.length c, t1], .int .i64 owner, .func (.func 59) #[] #[.pointer (some ⟨w.heap.size + 1 + 1 + 1 + 1 + 1, 0, none⟩), .pointer (some ⟨w.heap.size + 1 + 1 + 1 + 1, 0, none⟩), .pointer (some ⟨w.heap.size + 1 + 1 + 1, 0, none⟩)], z13, undef, undef, undef, undef, undef], defers := [] })
    (fun x a' _ X Y row hs hg hr => by
      obtain ⟨Bx, h1, h2, h3⟩ := hs
      refine ⟨Bx, h1, ?_, h3⟩
      refine (hg.block Bx (Array.getElem?_eq_some_iff.1 h2).1 (fun e => ?_)).trans h2
      obtain ⟨_, o, ho, hc⟩ := hr Bx e.symm
      rw [h2] at ho; cases ho; cases hc)
    ?assign ?body ?done ?stop
  case assign =>
    rintro l pre x W K ⟨⟨v, bv, ho, _⟩, hB1⟩ hK
    gi_wp2
    have hs := hB1.size
    refine hK _ _ ((KeepsOthers.alloc _ _).from _) ⟨(Below.refl _ W).alloc hs _, fun b cs t _ _ hb => ((World.grownBy_alloc W _ none).block b (Array.getElem?_eq_some_iff.1 hb).1 (by simp)).trans hb⟩ ⟨⟨v, bv.alloc _, ho.alloc _, trivial⟩, hB1.alloc hs _⟩ ⟨W.heap.size, bv.lt, World.alloc_heap_new W _, _, rfl⟩
  case body =>
    rintro l pre x a' W hl ⟨r, hr⟩ ⟨⟨v, bv, ho, _⟩, hB1⟩ ⟨Bx, hBx, bX, z13, rfl⟩ hlt
    have y0 : W.cell? ⟨Bx, 0, none⟩ = some (.int .u8 x.f0.f0) := by simp [World.cell?, bX]
    have y1 : W.cell? ⟨Bx, 1, none⟩ = some (.int .u8 x.f0.f1) := by simp [World.cell?, bX]
    have y2 : W.cell? ⟨Bx, 2, none⟩ = some (.int .u8 x.f0.f2) := by simp [World.cell?, bX]
    have y3 : W.cell? ⟨Bx, 3, none⟩ = some (.int .u32 x.f0.f3) := by simp [World.cell?, bX]
    have y4 : W.cell? ⟨Bx, 4, none⟩ = some (.int .u64 x.f0.f4) := by simp [World.cell?, bX]
    have y5 : W.cell? ⟨Bx, 5, none⟩ = some (.bool x.f1) := by simp [World.cell?, bX]
    have cO := bv.cell
    have fO := bv.frozen
    have hs := hB1.size
    clear x6 x5 x4 x3 hcap
    gi_wp2_with (gi_at_builtin; refine wpListIn_append_own _ rfl _ _ 34 rfl w.heap.size 75 i0 _ 6 24 (by kernel_rfl) hi hz0 hz1 hz2 rfl (by decide) _ _ _ rfl (ho.alloc _) _ 1 1 (cAsk x).toList rfl rfl (cells_new _ _ _) (ones_ask x) (by unfold maxLen; omega) (by omega) (by simp; omega) ?_; intro v' w1 hown' hgrow _; obtain ⟨g', cap', rfl⟩ := ownsRow_succ hown'; obtain ⟨hv1, hv2, hr2, hk2, hb2⟩ := bv.appended (by decide) ho hs (by omega) hown' hgrow; have hkp := Kp_app ho bv (by omega) hown' hgrow; have hc1 := hv1.cell; have hf1 := hv1.frozen)
    refine ⟨hk2.from _, ⟨hb2, hkp⟩, ⟨_, hv2, (by rw [flatAsk_snoc, List.length_append]; exact hr2 : World.ownsRow _ _ _ _ _ (pre ++ [x]).length (flatAsk (pre ++ [x])))⟩, hB1.trans hb2⟩
  case done =>
    rintro D zs W hD rfl ⟨⟨v, bv, ho, _⟩, hB1⟩ hK
    have cO := bv.cell
    gi_wp2
    refine ⟨by simp, .inl ⟨_, _, rfl, run_takeDeferred hK, ?_⟩⟩
    exact ⟨_, results_tmp rfl _ _ _, v, rfl, ownsRow_putObj ho _ hK rfl, hB1.trans (belowK_b (w := w) (Nat.le_refl _) W D _ _ (by omega) hK rfl rfl)⟩
  case stop =>
    rintro D c pre W _ _ h _
    exact h.elim
end Go.Proofs.YtoliipbmcekciaaDoor.QDc
