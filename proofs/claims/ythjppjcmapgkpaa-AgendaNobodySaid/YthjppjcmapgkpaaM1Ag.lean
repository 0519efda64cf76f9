/- Lane: OAg, PAg, RAg, SAg joined. -/
import Derived.Test.YthjppjcmapgkpaaM3Ag
import Derived.WalkSpells
import Derived.StillTailTactics
import Derived.Maps.OwnSet
/- Agenda: New, is, Len, first. -/
namespace Go.Proofs.Ythjppjcmapgkpaa.QAg
open Go.RowKit Go.Proofs.YthjppjcmapgkpaaW.PrintWords Go.Proofs.YthjppjcmapgkpaaW.PrintLast Go.Proofs.YthjppjcmapgkpaaW.PrintMore
set_option linter.unusedVariables false
set_option linter.unusedSimpArgs false
/-- The agenda at b, its map at mb: the entries by places, and their numbers' list. -/
structure Am (w : World) (b mb B : Nat) (f v : Value) (nx : Int) (n : Nat) (e : Nat → En) (l : List (Int × Nat)) : Prop where
  hq : Hq w b B f (.map (some mb)) v nx n e
  mp : ∃ N D, w.ownsMap Try.prog 3 Rv mb N D ∧ Lst D l ∧ (N : Int) < nx
  ml : mb < B ∧ mb ≠ b
theorem New_calls (w : World) : Calls Try.prog 8 #[fLess] w fun r w' => r = .returned (.pointer (some ⟨w.heap.size + 1, 0, none⟩)) ∧ Below w.heap.size w w' ∧ ∀ e : Nat → En, Am w' (w.heap.size + 1) w.heap.size (w.heap.size + 2) fLess (.slice none 0 0) 1 0 e [] := by
  have hmm := @run_makeMap Try.prog
  go_enter Try.func8, Try.ntmps8
  go_wp2
  go_ret
  have hb : Below w.heap.size w (w.alloc (Obj.map #[] 0)) := (Below.refl _ _).alloc (Nat.le_refl _) _
  have hs : (w.alloc (Obj.map #[] 0)).heap.size = w.heap.size + 1 := by show (w.heap.push _).size = _; rw [Array.size_push]
  refine ⟨rfl, hb.alloc hb.size _, fun e => ⟨⟨⟨heap_alloc2_new w (Obj.map #[] 0) _, RowQ.nil _ _ _ _, fun i hi => by omega, fun i j hi => by omega, by omega, ?_, by omega⟩, fun k hk => by omega⟩, ⟨_, _, (World.ownsMap_made w Try.prog 3 Rv).alloc _, Lst.nil, by decide⟩, by omega, by omega⟩⟩
  show w.heap.size + 2 ≤ (((w.alloc (Obj.map #[] 0)).heap).push _).size
  rw [Array.size_push, hs]
  exact Nat.le_refl _
theorem is_calls {w : World} {b B : Nat} {v : Value} {mb : Nat} {nx : Int} {n : Nat} {e : Nat → En} (h : Hp w b B fLess (.map (some mb)) nx v n e) : Calls Try.prog 33 #[.pointer (some ⟨b, 0, none⟩)] w fun r w' => r = .returned (.bool true) ∧ w' = w := by
  obtain ⟨c0, c1, c2, c3⟩ := h.cells
  have qT : ∀ (w : World) (r : Option Nat), (binOp .neq 61 (.map r) (.map none)).run Try.prog w = .ok (.bool (!r.isNone)) w := fun w r => run_neq_map_nil w _ _ _ r Try.underlying61
  have qF : ∀ (w : World), (binOp .neq 28 fLess .nilFunc).run Try.prog w = .ok (.bool true) w := fun _ => by kernel_rfl
  clear h c0 c3
  go_enter Try.func33, Try.ntmps33
  go_wp2
  go_ret
  exact ⟨rfl, rfl⟩
end Go.Proofs.Ythjppjcmapgkpaa.QAg
/- Agenda: Len, first. -/
namespace Go.Proofs.Ythjppjcmapgkpaa.QAg
open Go.RowKit Go.Proofs.YthjppjcmapgkpaaW.PrintWords Go.Proofs.YthjppjcmapgkpaaW.PrintLast Go.Proofs.YthjppjcmapgkpaaW.PrintMore
set_option linter.unusedVariables false
set_option linter.unusedSimpArgs false
theorem ALen_calls {w : World} {b B mb : Nat} {v : Value} {nx : Int} {n : Nat} {e : Nat → En} (h : Hp w b B fLess (.map (some mb)) nx v n e) : Calls Try.prog 12 #[.pointer (some ⟨b, 0, none⟩)] w fun r w' => r = .returned (.int .i64 (n : Int)) ∧ w' = w := by
  have HA := Aside0.mk h
  clear h
  go_enter Try.func12, Try.ntmps12
  go_wp2_with (first
    | (go_at_call 33; refine (is_calls HA.out).mono ?_; rintro r w2 ⟨rfl, hw2⟩; replace hw2 := hw2.symm; subst hw2)
    | (go_at_call 34; refine (Len_calls HA.out).mono ?_; rintro r w3 ⟨rfl, hw3⟩; replace hw3 := hw3.symm; subst hw3))
  go_ret
  exact ⟨rfl, rfl⟩
/-- The first entry's pointer, or none. -/
def fstP (n : Nat) (e : Nat → En) : Value := if n = 0 then .pointer none else .pointer (some ⟨(e 0).g, 0, none⟩)
theorem first_calls {w : World} {b B mb : Nat} {v : Value} {nx : Int} {n : Nat} {e : Nat → En} (h : Hp w b B fLess (.map (some mb)) nx v n e) : Calls Try.prog 36 #[.pointer (some ⟨b, 0, none⟩)] w fun r w' => r = .returned (fstP n e) ∧ w' = w := by
  obtain ⟨A, c, rfl, hc⟩ := h.form
  have c0 := h.cells.1
  have HA := Aside0.mk h
  rcases Nat.eq_zero_or_pos n with rfl | hn
  · clear h
    have HF : Aside0 (fstP 0 e = .pointer none) := ⟨if_pos rfl⟩
    go_enter Try.func36, Try.ntmps36
    go_wp2_with (go_at_call 33; refine (is_calls HA.out).mono ?_; rintro r w2 ⟨rfl, hw2⟩; replace hw2 := hw2.symm; subst hw2)
    go_ret
    exact ⟨by rw [HF.out]; rfl, rfl⟩
  · obtain ⟨gT, oT, rfl, p0⟩ := h.place hn
    rw [Nat.add_zero] at p0
    have HF : Aside0 (fstP n e = .pointer (some ⟨(e 0).g, 0, none⟩)) := ⟨if_neg (by omega)⟩
    have k1 : ((n : Int) == 0) = false := by simp; omega
    have k2 : (n == 0) = false := by simp; omega
    have k3 : ¬ n = 0 := by omega
    have k4 : (0 : Int) < (n : Int) := by omega
    clear h hn hc
    go_enter Try.func36, Try.ntmps36
    go_wp2_with (go_at_call 33; refine (is_calls HA.out).mono ?_; rintro r w2 ⟨rfl, hw2⟩; replace hw2 := hw2.symm; subst hw2)
    go_ret
    exact ⟨by rw [HF.out]; rfl, rfl⟩
end Go.Proofs.Ythjppjcmapgkpaa.QAg
/- Agenda: told. Written by a program of this repo (tools/gen_ag5.py). -/
namespace Go.Proofs.Ythjppjcmapgkpaa.QAg
open Go.RowKit Go.Proofs.YthjppjcmapgkpaaW.PrintWords Go.Proofs.YthjppjcmapgkpaaW.PrintLast Go.Proofs.YthjppjcmapgkpaaW.PrintMore
set_option linter.unusedVariables false
set_option linter.unusedSimpArgs false
section
variable {P : Program} {fn : Func} {p q u v : Nat} {t t2 : TypeId} {tmps : Array Value} {w : World} {g g2 : Nat} {C C2 : Array Value} {x y : Value} {d d2 : TypeDesc}
theorem res_ct (h : fn.results = #[.cell p t, .tmp u]) (hp : tmps.getD p undef = .pointer (some ⟨g, 0, none⟩)) (hx : tmps.getD u undef = x) (hg : w.heap[g]? = some (.cells C t (0, 0)))
    (hu : P.underlying t = some d) (hd : (match d with | .struct _ | .array _ _ => true | _ => false) = true) (hi : (P.info? t).map (·.size) = some C.size) :
    (results fn tmps).run P w = .ok (.tuple #[.agg C, x]) w := by
  have hp' : tmps[p]?.getD undef = .pointer (some ⟨g, 0, none⟩) := by simpa using hp
  have hx' : tmps[u]?.getD undef = x := by simpa using hx
  simp [results, h, hp', hx', asAddr, run_loadVar_row w g t t C (0, 0) d hg hu hd hi]
theorem res_ctt (h : fn.results = #[.cell p t, .tmp u, .tmp v]) (hp : tmps.getD p undef = .pointer (some ⟨g, 0, none⟩)) (hx : tmps.getD u undef = x) (hy : tmps.getD v undef = y) (hg : w.heap[g]? = some (.cells C t (0, 0)))
    (hu : P.underlying t = some d) (hd : (match d with | .struct _ | .array _ _ => true | _ => false) = true) (hi : (P.info? t).map (·.size) = some C.size) :
    (results fn tmps).run P w = .ok (.tuple #[.agg C, x, y]) w := by
  have hp' : tmps[p]?.getD undef = .pointer (some ⟨g, 0, none⟩) := by simpa using hp
  have hx' : tmps[u]?.getD undef = x := by simpa using hx
  have hy' : tmps[v]?.getD undef = y := by simpa using hy
  simp [results, h, hp', hx', hy', asAddr, run_loadVar_row w g t t C (0, 0) d hg hu hd hi]
theorem res_cct (h : fn.results = #[.cell p t, .cell q t2, .tmp u]) (hp : tmps.getD p undef = .pointer (some ⟨g, 0, none⟩)) (hq : tmps.getD q undef = .pointer (some ⟨g2, 0, none⟩)) (hx : tmps.getD u undef = x)
    (hg : w.heap[g]? = some (.cells C t (0, 0))) (hg2 : w.heap[g2]? = some (.cells C2 t2 (0, 0)))
    (hu : P.underlying t = some d) (hd : (match d with | .struct _ | .array _ _ => true | _ => false) = true) (hi : (P.info? t).map (·.size) = some C.size)
    (hu2 : P.underlying t2 = some d2) (hd2 : (match d2 with | .struct _ | .array _ _ => true | _ => false) = true) (hi2 : (P.info? t2).map (·.size) = some C2.size) :
    (results fn tmps).run P w = .ok (.tuple #[.agg C, .agg C2, x]) w := by
  have hp' : tmps[p]?.getD undef = .pointer (some ⟨g, 0, none⟩) := by simpa using hp
  have hq' : tmps[q]?.getD undef = .pointer (some ⟨g2, 0, none⟩) := by simpa using hq
  have hx' : tmps[u]?.getD undef = x := by simpa using hx
  simp [results, h, hp', hq', hx', asAddr, run_loadVar_row w g t t C (0, 0) d hg hu hd hi, run_loadVar_row w g2 t2 t2 C2 (0, 0) d2 hg2 hu2 hd2 hi2]
end
theorem ent_cells {w : World} {x : En} {i : Nat} (h : w.heap[x.g]? = some (.cells (aE x i) 75 (0, 0))) : w.cell? ⟨x.g, 0, none⟩ = some (.int .i64 x.id) ∧ w.cell? ⟨x.g, 1, none⟩ = some (.int .i64 (i : Int)) ∧ w.cell? ⟨x.g, 2, none⟩ = some (.int .i8 x.key) ∧ w.cell? ⟨x.g, 3, none⟩ = some (.int .i64 x.mark) := by
  refine ⟨?_, ?_, ?_, ?_⟩ <;> (simp only [World.cell?, h]; rfl)
set_option maxRecDepth 100000 in
set_option maxHeartbeats 2000000 in
theorem told_calls {w : World} (x : En) (i : Nat) (h : w.heap[x.g]? = some (.cells (aE x i) 75 (0, 0))) : Calls Try.prog 38 #[.pointer (some ⟨x.g, 0, none⟩)] w fun r w' => r = .returned (.tuple #[.agg (aT x.key x.mark), .int .i64 x.id, .bool true]) ∧ Below w.heap.size w w' := by
  have HNE : Aside0 (x.g ≠ w.heap.size) := ⟨by have := (Array.getElem?_eq_some_iff.1 h).1; omega⟩
  have HW1 : Aside0 (Below w.heap.size w (w.alloc (.cells (aT 0 0) 27))) := ⟨(Below.refl _ _).alloc (Nat.le_refl _) _⟩
  have HX1 := Aside0.mk (obj_below HW1.out h)
  have HB1 : Aside0 ((w.alloc (.cells (aT 0 0) 27)).heap[w.heap.size]? = some (.cells (aT 0 0) 27 (0, 0))) := ⟨World.alloc_heap_new _ _⟩
  clear h
  go_enter Try.func38, Try.ntmps38
  go_upto_region 1 with fail
  generalize w.alloc (.cells (aT 0 0) 27) = w1 at HW1 HX1 HB1 ⊢
  go_upto_region 4 with fail
  refine startN (S := fun w' => w'.heap[x.g]? = some (.cells (aE x i) 75 (0, 0))) (N := [3, 7]) (by kernel_rfl) ?_
  have hHeld : (fun w' => w'.heap[x.g]? = some (.cells (aE x i) 75 (0, 0))) w1.drew := HX1.out
  refine takeF (i := 0) (v := _) 9 rfl rfl (by kernel_rfl) (by kernel_rfl) (by kernel_rfl) (fun _ _ _ h => h) (Or.inl ⟨by rfl, fun w' _ => by first | (go_simp; done) | (go_simp; with_reducible rfl) | (go_simp; rfl)⟩) ?_
  try simp only [Act.put, List.setIfInBounds_toArray, List.set_cons_zero, List.set_cons_succ]
  refine takeF (i := 1) (v := _) 10 rfl rfl (by kernel_rfl) (by kernel_rfl) (by kernel_rfl) (fun _ _ _ h => h) (Or.inl ⟨by rfl, fun w' _ => by first | (go_simp; done) | (go_simp; with_reducible rfl) | (go_simp; rfl)⟩) ?_
  try simp only [Act.put, List.setIfInBounds_toArray, List.set_cons_zero, List.set_cons_succ]
  refine takeF (i := 2) (v := _) 11 rfl rfl (by kernel_rfl) (by kernel_rfl) (by kernel_rfl) (fun _ _ _ h => h) (Or.inl ⟨by rfl, fun w' _ => by first | (go_simp; done) | (go_simp; with_reducible rfl) | (go_simp; rfl)⟩) ?_
  try simp only [Act.put, List.setIfInBounds_toArray, List.set_cons_zero, List.set_cons_succ]
  refine takeN (i := 3) (v := _) 12 rfl rfl (by kernel_rfl) (by kernel_rfl) (by kernel_rfl) (fun _ _ _ h => h) (by kernel_rfl) (Or.inl ⟨by rfl, fun w' hW => by have hq0 := (ent_cells hW).1; have hq1 := (ent_cells hW).2.2.1; have hq2 := (ent_cells hW).2.2.2; first | (go_simp; done) | (go_simp; with_reducible rfl) | (go_simp; rfl)⟩) hHeld ?_
  try simp only [Act.put, List.setIfInBounds_toArray, List.set_cons_zero, List.set_cons_succ]
  refine takeF (i := 4) (v := _) 13 rfl rfl (by kernel_rfl) (by kernel_rfl) (by kernel_rfl) (fun _ _ _ h => h) (Or.inl ⟨by rfl, fun w' _ => by first | (go_simp; done) | (go_simp; with_reducible rfl) | (go_simp; rfl)⟩) ?_
  try simp only [Act.put, List.setIfInBounds_toArray, List.set_cons_zero, List.set_cons_succ]
  refine takeF (i := 5) (v := _) 14 rfl rfl (by kernel_rfl) (by kernel_rfl) (by kernel_rfl) (fun _ _ _ h => h) (Or.inl ⟨by rfl, fun w' _ => by first | (go_simp; done) | (go_simp; with_reducible rfl) | (go_simp; rfl)⟩) ?_
  try simp only [Act.put, List.setIfInBounds_toArray, List.set_cons_zero, List.set_cons_succ]
  refine takeF (i := 6) (v := _) 15 rfl rfl (by kernel_rfl) (by kernel_rfl) (by kernel_rfl) (fun _ _ _ h => h) (Or.inl ⟨by rfl, fun w' _ => by first | (go_simp; done) | (go_simp; with_reducible rfl) | (go_simp; rfl)⟩) ?_
  try simp only [Act.put, List.setIfInBounds_toArray, List.set_cons_zero, List.set_cons_succ]
  refine takeN (i := 7) (v := _) 16 rfl rfl (by kernel_rfl) (by kernel_rfl) (by kernel_rfl) (fun _ _ _ h => h) (by kernel_rfl) (Or.inl ⟨by rfl, fun w' hW => by have hq0 := (ent_cells hW).1; have hq1 := (ent_cells hW).2.2.1; have hq2 := (ent_cells hW).2.2.2; first | (go_simp; done) | (go_simp; with_reducible rfl) | (go_simp; rfl)⟩) hHeld ?_
  try simp only [Act.put, List.setIfInBounds_toArray, List.set_cons_zero, List.set_cons_succ]
  have hb : w1.drew.heap[w.heap.size]? = some (.cells (aT 0 0) 27 (0, 0)) := HB1.out
  have hx1 : w1.drew.heap[x.g]? = some (.cells (aE x i) 75 (0, 0)) := HX1.out
  refine readyN (rs := [8]) (by kernel_rfl) (by simp) ?_
  refine eachN.cons rfl (fun K hK => ?_) eachN.nil
  rw [if_pos (by rfl)]
  refine store_at rfl 27 (.tmp 2) (.tmp 12) rfl w.heap.size 0 (aT x.key x.mark) rfl rfl (there_of_block hb 0 2 (by simp)) (by kernel_rfl) (by simp [Value.oneCell']) ?_
  have HS : Aside0 ((w1.drew.setCells w.heap.size 0 (aT x.key x.mark).toList).heap[w.heap.size]? = some (.cells (aT x.key x.mark) 27 (0, 0)) ∧ (w1.drew.setCells w.heap.size 0 (aT x.key x.mark).toList).heap[x.g]? = some (.cells (aE x i) 75 (0, 0)) ∧ Below w.heap.size w (w1.drew.setCells w.heap.size 0 (aT x.key x.mark).toList)) := ⟨blk_setCells _ 0 _ _ hb, (far_setCells HNE.out _ _ _).trans hx1, below_setCells (Nat.le_refl _) _ _ _ (HW1.out.trans (((Below.refl _ w1).drew).mono HW1.out.size))⟩
  clear hb hx1
  generalize w1.drew.setCells w.heap.size 0 (aT x.key x.mark).toList = w2 at HS ⊢
  refine hK.out _ _ HS.out.2.1 (fun hHeld => ?_)
  clear hK K
  try simp only [Act.put, List.setIfInBounds_toArray, List.set_cons_zero, List.set_cons_succ]
  refine takeF (i := 9) (v := _) 3 rfl rfl (by kernel_rfl) (by kernel_rfl) (by kernel_rfl) (fun _ _ _ h => h) (Or.inl ⟨by rfl, fun w' _ => by first | (go_simp; done) | (go_simp; with_reducible rfl) | (go_simp; rfl)⟩) ?_
  try simp only [Act.put, List.setIfInBounds_toArray, List.set_cons_zero, List.set_cons_succ]
  refine takeF (i := 10) (v := _) 4 rfl rfl (by kernel_rfl) (by kernel_rfl) (by kernel_rfl) (fun _ _ _ h => h) (Or.inl ⟨by rfl, fun w' _ => by first | (go_simp; done) | (go_simp; with_reducible rfl) | (go_simp; rfl)⟩) ?_
  try simp only [Act.put, List.setIfInBounds_toArray, List.set_cons_zero, List.set_cons_succ]
  refine doneN (by kernel_rfl) ?_ _
  go_wp2
  exact bodyPost_ret (res_ctt (t := 27) rfl rfl rfl rfl HS.out.1 Try.underlying27 rfl (by kernel_rfl)) rfl ⟨rfl, HS.out.2.2⟩
end Go.Proofs.Ythjppjcmapgkpaa.QAg
/- Agenda: told at nothing. -/
namespace Go.Proofs.Ythjppjcmapgkpaa.QAg
open Go.RowKit Go.Proofs.YthjppjcmapgkpaaW.PrintWords Go.Proofs.YthjppjcmapgkpaaW.PrintLast Go.Proofs.YthjppjcmapgkpaaW.PrintMore
set_option linter.unusedVariables false
set_option linter.unusedSimpArgs false
set_option maxRecDepth 100000 in
set_option maxHeartbeats 2000000 in
theorem told_none (w : World) : Calls Try.prog 38 #[.pointer none] w fun r w' => r = .returned (.tuple #[.agg (aT 0 0), .int .i64 0, .bool false]) ∧ Below w.heap.size w w' := by
  have HW1 : Aside0 (Below w.heap.size w ((w.alloc (.cells (aT 0 0) 27)).alloc (.cells (aT 0 0) 27))) := ⟨((Below.refl _ _).alloc (Nat.le_refl _) _).alloc (by simp) _⟩
  have hs : (w.alloc (.cells (aT 0 0) 27)).heap.size = w.heap.size + 1 := by show (w.heap.push _).size = _; rw [Array.size_push]
  have HB1 : Aside0 (((w.alloc (.cells (aT 0 0) 27)).alloc (.cells (aT 0 0) 27)).heap[w.heap.size]? = some (.cells (aT 0 0) 27 (0, 0))) := ⟨obj_below ((Below.refl _ _).alloc (Nat.le_refl _) _) (World.alloc_heap_new _ _)⟩
  have HB2 : Aside0 (((w.alloc (.cells (aT 0 0) 27)).alloc (.cells (aT 0 0) 27)).heap[w.heap.size + 1]? = some (.cells (aT 0 0) 27 (0, 0))) := ⟨by have := World.alloc_heap_new (w.alloc (.cells (aT 0 0) 27)) (.cells (aT 0 0) 27); rw [hs] at this; exact this⟩
  clear hs
  go_enter Try.func38, Try.ntmps38
  go_upto_region 3 with fail
  generalize (w.alloc (.cells (aT 0 0) 27)).alloc (.cells (aT 0 0) 27) = w2 at HW1 HB1 HB2 ⊢
  have x0 : w2.cell? ⟨w.heap.size + 1, 0, none⟩ = some (.int .i8 0) := by have := HB2.out; simp only [World.cell?, this]; rfl
  have x1 : w2.cell? ⟨w.heap.size + 1, 1, none⟩ = some (.int .i64 0) := by have := HB2.out; simp only [World.cell?, this]; rfl
  go_wp2_with ((with_reducible refine gate_store (t := 27) (p := 2) rfl ?_); refine store_blk rfl 27 (.tmp 2) (.tmp 8) rfl w.heap.size 0 (aT 0 0) (aT 0 0) 27 rfl rfl HB1.out (by simp) (by kernel_rfl) (by simp [Value.oneCell']) ?_; intro w3 hw3 hb3; have HS : Aside0 (w3.heap[w.heap.size]? = some (.cells (aT 0 0) 27 (0, 0)) ∧ Below w.heap.size w w3) := ⟨hb3, by rw [hw3]; exact below_setCells (Nat.le_refl _) _ _ _ HW1.out⟩; clear hw3 hb3)
  exact bodyPost_ret (res_ctt (t := 27) rfl rfl rfl rfl HS.out.1 Try.underlying27 rfl (by kernel_rfl)) rfl ⟨rfl, HS.out.2⟩
end Go.Proofs.Ythjppjcmapgkpaa.QAg
