/- Agenda: agendas that nobody made refuse all. Written by a program of this repo (tools/gen_ag14.py). -/
import Derived.Test.YthjppjcmapgkpaaIIAg
namespace Go.Proofs.Ythjppjcmapgkpaa.QAg
open Go.RowKit Go.Proofs.YthjppjcmapgkpaaW.PrintWords Go.Proofs.YthjppjcmapgkpaaW.PrintLast Go.Proofs.YthjppjcmapgkpaaW.PrintMore
set_option linter.unusedVariables false
set_option linter.unusedSimpArgs false
/-- An agenda that nobody made, or that has no less. -/
def NB (w : World) (a : Value) : Prop := a = .pointer none ∨ ∃ (b : Nat) (v : Value) (m : Option Nat) (nx : Value), a = .pointer (some ⟨b, 0, none⟩) ∧ w.heap[b]? = some (.cells #[v, .nilFunc, .map m, nx] 63 (0, 0))
theorem NB.below {w w' : World} {a : Value} (h : NB w a) (k : Below w.heap.size w w') : NB w' a := by
  rcases h with h | ⟨b, v, m, nx, h1, h2⟩
  · exact Or.inl h
  · exact Or.inr ⟨b, v, m, nx, h1, obj_below k h2⟩
set_option maxRecDepth 100000 in
set_option maxHeartbeats 2000000 in
theorem is_no {w : World} {a : Value} (h : NB w a) : Calls Try.prog 33 #[a] w fun r w' => r = .returned (.bool false) ∧ w' = w := by
  have qT : ∀ (w : World) (r : Option Nat), (binOp .neq 61 (.map r) (.map none)).run Try.prog w = .ok (.bool (!r.isNone)) w := fun w r => run_neq_map_nil w _ _ _ r Try.underlying61
  have qF : ∀ (w : World), (binOp .neq 28 .nilFunc .nilFunc).run Try.prog w = .ok (.bool false) w := fun _ => by kernel_rfl
  rcases h with rfl | ⟨b, v, m, nx, rfl, hb⟩
  · go_enter Try.func33, Try.ntmps33
    go_wp2
    go_ret
    exact ⟨rfl, rfl⟩
  · have c1 : w.cell? ⟨b, 1, none⟩ = some .nilFunc := by simp only [World.cell?, hb]; rfl
    have c2 : w.cell? ⟨b, 2, none⟩ = some (.map m) := by simp only [World.cell?, hb]; rfl
    clear hb
    cases m with
    | none =>
      go_enter Try.func33, Try.ntmps33
      go_wp2
      go_ret
      exact ⟨rfl, rfl⟩
    | some mb =>
      go_enter Try.func33, Try.ntmps33
      go_wp2
      go_ret
      exact ⟨rfl, rfl⟩
set_option maxRecDepth 100000 in
set_option maxHeartbeats 2000000 in
theorem Push_no {w : World} {a : Value} (h : NB w a) (k m : Int) : Calls Try.prog 15 #[a, .agg (aT k m)] w fun r w' => r = .returned (.tuple #[.int .i64 0, .int .i64 4]) ∧ Below w.heap.size w w' := by
  have HW1 : Aside0 (Below w.heap.size w (w.alloc (.cells (aT k m) 27))) := ⟨(Below.refl _ _).alloc (Nat.le_refl _) _⟩
  have HB1 : Aside0 ((w.alloc (.cells (aT k m) 27)).heap[w.heap.size]? = some (.cells (aT k m) 27 (0, 0))) := ⟨World.alloc_heap_new _ _⟩
  have HA := Aside0.mk (h.below HW1.out)
  clear h
  go_enter Try.func15, Try.ntmps15
  go_upto_region 1 with fail
  generalize w.alloc (.cells (aT k m) 27) = w1 at HW1 HB1 HA ⊢
  go_wp2_with (go_at_call 33; refine (is_no HA.out).mono ?_; rintro r wi ⟨rfl, hwi⟩; replace hwi := hwi.symm; subst hwi)
  exact bodyPost_ret (results_tmp2 rfl _ _ _) rfl ⟨rfl, HW1.out⟩
set_option maxRecDepth 100000 in
set_option maxHeartbeats 2000000 in
theorem first_no {w : World} {a : Value} (h : NB w a)  : Calls Try.prog 36 #[a] w fun r w' => r = .returned (.pointer none) ∧ w' = w := by
  have HA := Aside0.mk h
  clear h
  go_enter Try.func36, Try.ntmps36
  go_wp2_with (go_at_call 33; refine (is_no HA.out).mono ?_; rintro r wi ⟨rfl, hwi⟩; replace hwi := hwi.symm; subst hwi)
  go_ret
  exact ⟨rfl, rfl⟩
set_option maxRecDepth 100000 in
set_option maxHeartbeats 2000000 in
theorem First_no {w : World} {a : Value} (h : NB w a)  : Calls Try.prog 19 #[a] w fun r w' => r = .returned (.tuple #[.agg (aT 0 0), .int .i64 0, .bool false]) ∧ Below w.heap.size w w' := by
  have HW1 : Aside0 (Below w.heap.size w (w.alloc (.cells (aT 0 0) 27))) := ⟨(Below.refl _ _).alloc (Nat.le_refl _) _⟩
  have HB1 : Aside0 ((w.alloc (.cells (aT 0 0) 27)).heap[w.heap.size]? = some (.cells (aT 0 0) 27 (0, 0))) := ⟨World.alloc_heap_new _ _⟩
  have HA := Aside0.mk (h.below HW1.out)
  clear h
  go_enter Try.func19, Try.ntmps19
  go_upto_region 1 with fail
  generalize w.alloc (.cells (aT 0 0) 27) = w1 at HW1 HB1 HA ⊢
  go_wp2_with (first | (go_at_call 36; refine (first_no HA.out).mono ?_; rintro r wf ⟨rfl, hwf⟩; replace hwf := hwf.symm; subst hwf) | (go_at_call 38; refine (told_none _).mono ?_; rintro r w3 ⟨rfl, hw3⟩; have HB3 := Aside0.mk (obj_below hw3 HB1.out); have HW3 := Aside0.mk (HW1.out.trans (hw3.mono HW1.out.size)); clear hw3) | ((with_reducible refine gate_store (t := 27) (p := 2) rfl ?_); refine store_blk rfl 27 (.tmp 2) (.tmp 8) rfl w.heap.size 0 (aT 0 0) (aT 0 0) 27 rfl rfl HB3.out (by simp) (by kernel_rfl) (by simp [Value.oneCell']) ?_; intro w9 hw9 hb9; have HS : Aside0 (w9.heap[w.heap.size]? = some (.cells (aT 0 0) 27 (0, 0)) ∧ Below w.heap.size w w9) := ⟨hb9, by rw [hw9]; exact below_setCells (Nat.le_refl _) _ _ _ HW3.out⟩; clear hw9 hb9))
  exact bodyPost_ret (res_ctt (t := 27) rfl rfl rfl rfl HS.out.1 Try.underlying27 rfl (by kernel_rfl)) rfl ⟨rfl, HS.out.2⟩
set_option maxRecDepth 100000 in
set_option maxHeartbeats 2000000 in
theorem Pop_no {w : World} {a : Value} (h : NB w a)  : Calls Try.prog 16 #[a] w fun r w' => r = .returned (.tuple #[.agg (aT 0 0), .int .i64 0, .bool false]) ∧ Below w.heap.size w w' := by
  have HW1 : Aside0 (Below w.heap.size w (w.alloc (.cells (aT 0 0) 27))) := ⟨(Below.refl _ _).alloc (Nat.le_refl _) _⟩
  have HB1 : Aside0 ((w.alloc (.cells (aT 0 0) 27)).heap[w.heap.size]? = some (.cells (aT 0 0) 27 (0, 0))) := ⟨World.alloc_heap_new _ _⟩
  have HA := Aside0.mk (h.below HW1.out)
  clear h
  go_enter Try.func16, Try.ntmps16
  go_upto_region 1 with fail
  generalize w.alloc (.cells (aT 0 0) 27) = w1 at HW1 HB1 HA ⊢
  go_wp2_with (first | (go_at_call 36; refine (first_no HA.out).mono ?_; rintro r wf ⟨rfl, hwf⟩; replace hwf := hwf.symm; subst hwf) | (go_at_call 38; refine (told_none _).mono ?_; rintro r w3 ⟨rfl, hw3⟩; have HB3 := Aside0.mk (obj_below hw3 HB1.out); have HW3 := Aside0.mk (HW1.out.trans (hw3.mono HW1.out.size)); clear hw3) | ((with_reducible refine gate_store (t := 27) (p := 2) rfl ?_); refine store_blk rfl 27 (.tmp 2) (.tmp 15) rfl w.heap.size 0 (aT 0 0) (aT 0 0) 27 rfl rfl HB3.out (by simp) (by kernel_rfl) (by simp [Value.oneCell']) ?_; intro w9 hw9 hb9; have HS : Aside0 (w9.heap[w.heap.size]? = some (.cells (aT 0 0) 27 (0, 0)) ∧ Below w.heap.size w w9) := ⟨hb9, by rw [hw9]; exact below_setCells (Nat.le_refl _) _ _ _ HW3.out⟩; clear hw9 hb9))
  exact bodyPost_ret (res_ctt (t := 27) rfl rfl rfl rfl HS.out.1 Try.underlying27 rfl (by kernel_rfl)) rfl ⟨rfl, HS.out.2⟩
set_option maxRecDepth 100000 in
set_option maxHeartbeats 2000000 in
theorem Get_no {w : World} {a : Value} (h : NB w a) (id : Int) : Calls Try.prog 21 #[a, .int .i64 id] w fun r w' => r = .returned (.tuple #[.agg (aT 0 0), .bool false]) ∧ Below w.heap.size w w' := by
  have HW1 : Aside0 (Below w.heap.size w (w.alloc (.cells (aT 0 0) 27))) := ⟨(Below.refl _ _).alloc (Nat.le_refl _) _⟩
  have HB1 : Aside0 ((w.alloc (.cells (aT 0 0) 27)).heap[w.heap.size]? = some (.cells (aT 0 0) 27 (0, 0))) := ⟨World.alloc_heap_new _ _⟩
  have HA := Aside0.mk (h.below HW1.out)
  clear h
  go_enter Try.func21, Try.ntmps21
  go_upto_region 1 with fail
  generalize w.alloc (.cells (aT 0 0) 27) = w1 at HW1 HB1 HA ⊢
  go_upto_region 5 with (first | (go_at_call 33; refine (is_no HA.out).mono ?_; rintro r wi ⟨rfl, hwi⟩; replace hwi := hwi.symm; subst hwi) | (go_at_call 38; refine (told_none _).mono ?_; rintro r w3 ⟨rfl, hw3⟩; have HB3 := Aside0.mk (obj_below (hw3.alloc hw3.size (.cells (aT 0 0) 27)) HB1.out); have HW3 := Aside0.mk (HW1.out.trans ((hw3.alloc hw3.size (.cells (aT 0 0) 27)).mono HW1.out.size)); clear hw3))
  have hp : (w3.alloc (.cells (aT 0 0) 27)).heap[w3.heap.size]? = some (.cells (aT 0 0) 27 (0, 0)) := World.alloc_heap_new _ _
  have x0 : (w3.alloc (.cells (aT 0 0) 27)).cell? ⟨w3.heap.size, 0, none⟩ = some (.int .i8 0) := by simp only [World.cell?, hp]; rfl
  have x1 : (w3.alloc (.cells (aT 0 0) 27)).cell? ⟨w3.heap.size, 1, none⟩ = some (.int .i64 0) := by simp only [World.cell?, hp]; rfl
  clear hp
  generalize w3.alloc (.cells (aT 0 0) 27) = w4 at HB3 HW3 x0 x1 ⊢
  generalize w3.heap.size = g7 at x0 x1 ⊢
  go_wp2_with ((with_reducible refine gate_store (t := 27) (p := 4) rfl ?_); refine store_blk rfl 27 (.tmp 4) (.tmp 24) rfl w.heap.size 0 (aT 0 0) (aT 0 0) 27 rfl rfl HB3.out (by simp) (by kernel_rfl) (by simp [Value.oneCell']) ?_; intro w9 hw9 hb9; have HS : Aside0 (w9.heap[w.heap.size]? = some (.cells (aT 0 0) 27 (0, 0)) ∧ Below w.heap.size w w9) := ⟨hb9, by rw [hw9]; exact below_setCells (Nat.le_refl _) _ _ _ HW3.out⟩; clear hw9 hb9)
  exact bodyPost_ret (res_ct (t := 27) rfl rfl rfl HS.out.1 Try.underlying27 rfl (by kernel_rfl)) rfl ⟨rfl, HS.out.2⟩
set_option maxRecDepth 100000 in
set_option maxHeartbeats 2000000 in
theorem changed_no {w : World} {a : Value} (h : NB w a) (id : Int) (f : Value) : Calls Try.prog 39 #[a, .int .i64 id, f] w fun r w' => r = .returned (.int .i64 4) ∧ w' = w := by
  have HA := Aside0.mk h
  clear h
  go_enter Try.func39, Try.ntmps39
  go_wp2_with (go_at_call 33; refine (is_no HA.out).mono ?_; rintro r wi ⟨rfl, hwi⟩; replace hwi := hwi.symm; subst hwi)
  go_ret
  exact ⟨rfl, rfl⟩
set_option maxRecDepth 100000 in
set_option maxHeartbeats 2000000 in
theorem Set_no {w : World} {a : Value} (h : NB w a) (id k m : Int) : Calls Try.prog 18 #[a, .int .i64 id, .agg (aT k m)] w fun r w' => r = .returned (.int .i64 4) ∧ Below w.heap.size w w' := by
  have HW1 : Aside0 (Below w.heap.size w (w.alloc (.cells (aT k m) 27))) := ⟨(Below.refl _ _).alloc (Nat.le_refl _) _⟩
  have HB1 : Aside0 ((w.alloc (.cells (aT k m) 27)).heap[w.heap.size]? = some (.cells (aT k m) 27 (0, 0))) := ⟨World.alloc_heap_new _ _⟩
  have HA := Aside0.mk (h.below HW1.out)
  clear h
  go_enter Try.func18, Try.ntmps18
  go_upto_region 1 with fail
  generalize w.alloc (.cells (aT k m) 27) = w1 at HW1 HB1 HA ⊢
  go_wp2_with (go_at_call 39; refine (changed_no HA.out _ _).mono ?_; rintro r w2 ⟨rfl, hw2⟩; replace hw2 := hw2.symm; subst hw2)
  go_ret
  exact ⟨rfl, HW1.out⟩
set_option maxRecDepth 100000 in
set_option maxHeartbeats 2000000 in
theorem Drop_no {w : World} {a : Value} (h : NB w a) (id : Int) : Calls Try.prog 17 #[a, .int .i64 id] w fun r w' => r = .returned (.int .i64 4) ∧ w' = w := by
  have HA := Aside0.mk h
  clear h
  go_enter Try.func17, Try.ntmps17
  go_wp2_with (go_at_call 39; refine (changed_no HA.out _ _).mono ?_; rintro r w2 ⟨rfl, hw2⟩; replace hw2 := hw2.symm; subst hw2)
  go_ret
  exact ⟨rfl, rfl⟩
set_option maxRecDepth 100000 in
set_option maxHeartbeats 2000000 in
theorem Len_no {w : World} {a : Value} (h : NB w a)  : Calls Try.prog 12 #[a] w fun r w' => r = .returned (.int .i64 0) ∧ w' = w := by
  have HA := Aside0.mk h
  clear h
  go_enter Try.func12, Try.ntmps12
  go_wp2_with (go_at_call 33; refine (is_no HA.out).mono ?_; rintro r wi ⟨rfl, hwi⟩; replace hwi := hwi.symm; subst hwi)
  go_ret
  exact ⟨rfl, rfl⟩
set_option maxRecDepth 100000 in
set_option maxHeartbeats 2000000 in
theorem each_no {w : World} {a : Value} (h : NB w a) (y : Value) : Calls Try.prog 45 #[.func (.func 16) #[a] #[], y] w fun r w' => r = .returned (.tuple #[]) ∧ Below w.heap.size w w' := by
  have HA := Aside0.mk h
  clear h
  go_enter Try.func45, Try.ntmps45
  go_upto_region 1 with (go_at_call 16; refine (Pop_no HA.out).mono ?_; rintro r w2 ⟨rfl, hl⟩; have HL := Aside0.mk (hl.alloc hl.size (.cells (aT 0 0) 27)); clear hl)
  try change Code.wp _ _ _ _ (w2.alloc (.cells (aT 0 0) 27))
  generalize w2.alloc (.cells (aT 0 0) 27) = w3 at HL ⊢
  go_loopw [6] (fun u6 wr => u6 = .bool false ∧ wr = w3) (fun _ _ => 0)
  case atStart => exact ⟨rfl, rfl⟩
  case round =>
    obtain ⟨rfl, hw⟩ := hrel
    subst hw
    go_wp2
    exact bodyPost_end (results_none rfl _ _ _) rfl ⟨rfl, HL.out⟩
theorem drain44_no {w : World} {a : Value} {gb : Nat} (h : NB w a) (y : Value) (hg : w.heap[gb]? = some (.cells #[a] 23 (0, 0))) : Calls Try.prog 44 #[y, .pointer (some ⟨gb, 0, none⟩)] w fun r w' => r = .returned (.tuple #[]) ∧ Below w.heap.size w w' := by
  have HA := Aside0.mk h
  rcases h with rfl | ⟨b, v, m, nx, rfl, hb⟩
  · have c0 : w.cell? ⟨gb, 0, none⟩ = some (.pointer none) := by simp only [World.cell?, hg]; rfl
    clear hg
    go_enter Try.func44, Try.ntmps44
    go_wp2_with (go_at_call 45; refine (each_no HA.out _).mono ?_; rintro r w2 ⟨rfl, hd⟩; have HD := Aside0.mk hd; clear hd)
    exact bodyPost_end (results_none rfl _ _ _) rfl ⟨rfl, HD.out⟩
  · have c0 : w.cell? ⟨gb, 0, none⟩ = some (.pointer (some ⟨b, 0, none⟩)) := by simp only [World.cell?, hg]; rfl
    clear hg hb
    go_enter Try.func44, Try.ntmps44
    go_wp2_with (go_at_call 45; refine (each_no HA.out _).mono ?_; rintro r w2 ⟨rfl, hd⟩; have HD := Aside0.mk hd; clear hd)
    exact bodyPost_end (results_none rfl _ _ _) rfl ⟨rfl, HD.out⟩
end Go.Proofs.Ythjppjcmapgkpaa.QAg
