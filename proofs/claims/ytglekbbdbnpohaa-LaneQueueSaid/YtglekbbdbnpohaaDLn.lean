/- Lane: New. -/
import Derived.Test.YtglekbbdbnpohaaCLn
import Derived.Laws.ResultCell
namespace Go.Proofs.Ytglekbbdbnpohaa.QLn
open Go.RowKit Go.Proofs.YtglekbbdbnpohaaW.PrintWords Go.Proofs.YtglekbbdbnpohaaW.PrintLast Go.Proofs.YtglekbbdbnpohaaW.PrintMore
set_option linter.unusedVariables false
set_option linter.unusedSimpArgs false
/-! ### Results in cells -/
section
variable {P : Program} {fn : Func} {p q u v : Nat} {t t2 : TypeId} {tmps : Array Value} {w : World} {g g2 : Nat} {C C2 : Array Value} {x y : Value} {d d2 : TypeDesc}
theorem res_ct (h : fn.results = #[.cell p t, .tmp u]) (hp : tmps.getD p undef = .pointer (some ⟨g, 0, none⟩)) (hx : tmps.getD u undef = x) (hg : w.heap[g]? = some (.cells C t (0, 0)))
    (hu : P.underlying t = some d) (hd : (match d with | .struct _ | .array _ _ => true | _ => false) = true) (hi : (P.info? t).map (·.size) = some C.size) :
    (results fn tmps).run P w = .ok (.tuple #[.agg C, x]) w := by
  have hp' : tmps[p]?.getD undef = .pointer (some ⟨g, 0, none⟩) := by simpa using hp
  have hx' : tmps[u]?.getD undef = x := by simpa using hx
  simp [results, h, hp', hx', asAddr, run_loadVar_row w g t t C (0, 0) d hg hu hd hi]
theorem res_ctt (h : fn.results = #[.cell p t, .tmp u, .tmp v]) (hp : tmps.getD p undef = .pointer (some ⟨g, 0, none⟩)) (hx : tmps.getD u undef = x) (hy : tmps.getD v undef = y) (hg : w.heap[g]? = some (.cells C t (0, 0)))
    (hu : P.underlying t = some d) (hd : (match d with | .struct _ | .array _ _ => true | _ => false) = true) (hi : (P.info? t).map (·.size) = some C.size) :
    (results fn tmps).run P w = .ok (.tuple #[.agg C, x, y]) w := by
  have hp' : tmps[p]?.getD undef = .pointer (some ⟨g, 0, none⟩) := by simpa using hp
  have hx' : tmps[u]?.getD undef = x := by simpa using hx
  have hy' : tmps[v]?.getD undef = y := by simpa using hy
  simp [results, h, hp', hx', hy', asAddr, run_loadVar_row w g t t C (0, 0) d hg hu hd hi]
theorem res_cct (h : fn.results = #[.cell p t, .cell q t2, .tmp u]) (hp : tmps.getD p undef = .pointer (some ⟨g, 0, none⟩)) (hq : tmps.getD q undef = .pointer (some ⟨g2, 0, none⟩)) (hx : tmps.getD u undef = x)
    (hg : w.heap[g]? = some (.cells C t (0, 0))) (hg2 : w.heap[g2]? = some (.cells C2 t2 (0, 0)))
    (hu : P.underlying t = some d) (hd : (match d with | .struct _ | .array _ _ => true | _ => false) = true) (hi : (P.info? t).map (·.size) = some C.size)
    (hu2 : P.underlying t2 = some d2) (hd2 : (match d2 with | .struct _ | .array _ _ => true | _ => false) = true) (hi2 : (P.info? t2).map (·.size) = some C2.size) :
    (results fn tmps).run P w = .ok (.tuple #[.agg C, .agg C2, x]) w := by
  have hp' : tmps[p]?.getD undef = .pointer (some ⟨g, 0, none⟩) := by simpa using hp
  have hq' : tmps[q]?.getD undef = .pointer (some ⟨g2, 0, none⟩) := by simpa using hq
  have hx' : tmps[u]?.getD undef = x := by simpa using hx
  simp [results, h, hp', hq', hx', asAddr, run_loadVar_row w g t t C (0, 0) d hg hu hd hi, run_loadVar_row w g2 t2 t2 C2 (0, 0) d2 hg2 hu2 hd2 hi2]
end
def szOk (c : Nat) : Bool := match order_Size.f 20 ((c : Int) + 1) with
  | some (r, e) => (r == 1 || r == 2 || r == 4 || r == 8 || r == 16 || r == 32 || r == 64) && e == 0 && decide ((c : Int) + 1 ≤ r)
  | none => false
theorem sz_all : (List.range 64).all szOk = true := by kernel_rfl
theorem size_f (c : Int) (h1 : 1 ≤ c) (h2 : c ≤ 64) : ∃ r, order_Size.f 20 c = some (r, 0) ∧ Pw r ∧ c ≤ r := by
  obtain ⟨m, rfl⟩ : ∃ m : Nat, c = (m : Int) + 1 := ⟨(c - 1).toNat, by omega⟩
  have h := List.all_eq_true.1 sz_all m (List.mem_range.2 (by omega))
  unfold szOk at h
  split at h
  · rename_i r e he
    simp only [Bool.and_eq_true, Bool.or_eq_true, beq_iff_eq, decide_eq_true_eq] at h
    obtain ⟨⟨h3, h4⟩, h5⟩ := h
    subst h4
    exact ⟨r, he, by unfold Pw; omega, h5⟩
  · exact absurd h (by decide)
def zs : LS := ⟨0, false, 0, 0, fun _ => ⟨0, 0, 0, 0, 0⟩, 0, 0, 0, 0, 0, 0, 0, .map []⟩
def zval (k : Nat) : Value := if k = 329 then .map none else lval zs k
theorem zero_list : Try.zeroCells67.toList = (List.range 330).map zval := by kernel_rfl
theorem zero_size : Try.zeroCells67.size = 330 := by rw [← Array.length_toList, zero_list, List.length_map, List.length_range]
theorem zero_at (k : Nat) (hk : k < 330) : Try.zeroCells67[k]? = some (zval k) := by
  rw [← Array.getElem?_toList, zero_list, List.getElem?_map, List.getElem?_range hk]; rfl
def newS (c : Int) (two : Bool) (sz st : Int) (mb : Nat) : LS := ⟨c, two, c, sz, fun _ => ⟨0, 0, 0, 0, 0⟩, st, st, st, st, 0, mb, 0, .map []⟩
theorem new_lv (c : Int) (two : Bool) (sz st : Int) (mb : Nat) : LV (((((((((Try.zeroCells67.setIfInBounds 0 (Value.int IntKind.i64 c)).setIfInBounds 1 (Value.bool two)).setIfInBounds 2 (Value.int IntKind.i64 c)).setIfInBounds 3 (Value.int IntKind.i64 sz)).setIfInBounds
    324 (Value.int IntKind.u64 st)).setIfInBounds 325 (Value.int IntKind.u64 st)).setIfInBounds 326 (Value.int IntKind.u64 st)).setIfInBounds 327 (Value.int IntKind.u64 st)).setIfInBounds 329 (Value.map (some mb))) (newS c two sz st mb) := by
  refine ⟨by simp only [Array.size_setIfInBounds, zero_size], fun k hk => ?_⟩
  simp only [Array.getElem?_setIfInBounds, Array.size_setIfInBounds, zero_size]
  by_cases e0 : k = 0
  · subst e0; rfl
  by_cases e1 : k = 1
  · subst e1; rfl
  by_cases e2 : k = 2
  · subst e2; rfl
  by_cases e3 : k = 3
  · subst e3; rfl
  by_cases e4 : k = 324
  · subst e4; rfl
  by_cases e5 : k = 325
  · subst e5; rfl
  by_cases e6 : k = 326
  · subst e6; rfl
  by_cases e7 : k = 327
  · subst e7; rfl
  by_cases e8 : k = 329
  · subst e8; rfl
  rw [if_neg (Ne.symm e8), if_neg (Ne.symm e7), if_neg (Ne.symm e6), if_neg (Ne.symm e5), if_neg (Ne.symm e4), if_neg (Ne.symm e3), if_neg (Ne.symm e2), if_neg (Ne.symm e1), if_neg (Ne.symm e0), zero_at k hk]
  unfold zval lval
  rw [if_neg e8, if_neg e0, if_neg e1, if_neg e2, if_neg e3, if_neg e0, if_neg e1, if_neg e2, if_neg e3]
  by_cases h : k < 324
  · rw [if_pos h, if_pos h]; rfl
  · rw [if_neg h, if_neg h, if_neg e4, if_neg e5, if_neg e6, if_neg e7, if_neg e4, if_neg e5, if_neg e6, if_neg e7, if_pos (by omega), if_pos (by omega)]; rfl
theorem keyed : Go.Maps.Keyed Try.prog 22 := Go.Maps.int_keyed Try.underlying22
set_option maxHeartbeats 1000000 in
theorem New_calls (c : Int) (two : Bool) (st : Int) (h1 : 1 ≤ c) (h2 : c ≤ 64) (hst : U64 st) (w : World) : Calls Try.prog 10 #[.int .i64 c, .bool two, .int .u64 st] w fun e w' =>
    ∃ sz, Pw sz ∧ c ≤ sz ∧ e = .returned (.tuple #[.pointer (some ⟨w.heap.size + 1, 0, none⟩), .int .i64 0]) ∧ Below w.heap.size w w' ∧
      Ln w' (w.heap.size + 1) (newS c two sz st w.heap.size) := by
  obtain ⟨sz, hs, hp, hc⟩ := size_f c h1 h2
  have HS := Aside0.mk hs
  have HP := Aside0.mk hp
  have HC := Aside0.mk hc
  have d1 : decide (c < 1) = false := decide_eq_false (by omega)
  have d2 : decide (c > 64) = false := decide_eq_false (by omega)
  have d2' : decide (64 < c) = false := decide_eq_false (by omega)
  clear h1 h2 hs hp hc
  have hmm := @run_makeMap Try.prog
  go_enter Try.func10, Try.ntmps10
  go_upto_region 6 with (go_at_call 24; refine (order_Size.calls 20 c sz 0 _ HS.out).mono ?_; rintro e1 w1 ⟨rfl, ⟨nd, rfl⟩⟩)
  go_wp2
  go_ret2
  have hb : Below w.heap.size w ((w.drewN nd).alloc (Obj.map #[] 0)) := (pw_below_drewN (Below.refl _ _) nd).alloc (Nat.le_refl _) _
  refine ⟨sz, HP.out, HC.out, rfl, hb.alloc hb.size _, ⟨_, heap_alloc2_new (w.drewN nd) (Obj.map #[] 0) _, new_lv c two sz st w.heap.size⟩, ?_⟩
  exact (World.ownsMap_made (w.drewN nd) Try.prog 22 Rp).alloc _
theorem New_bad (c : Int) (two : Bool) (st : Int) (h : c < 1 ∨ 64 < c) (w : World) : Calls Try.prog 10 #[.int .i64 c, .bool two, .int .u64 st] w fun e w' =>
    e = .returned (.tuple #[.pointer none, .int .i64 80]) ∧ Below w.heap.size w w' := by
  by_cases h1 : c < 1
  · have d1 : decide (c < 1) = true := decide_eq_true h1
    go_enter Try.func10, Try.ntmps10
    go_wp2
    go_ret2
    exact ⟨rfl, Below.refl _ _⟩
  · have d1 : decide (c < 1) = false := decide_eq_false h1
    have d2 : decide (c > 64) = true := decide_eq_true (by omega)
    have d2' : decide (64 < c) = true := decide_eq_true (by omega)
    go_enter Try.func10, Try.ntmps10
    go_wp2
    go_ret2
    exact ⟨rfl, Below.refl _ _⟩
end Go.Proofs.Ytglekbbdbnpohaa.QLn
