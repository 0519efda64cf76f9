/- Agenda: changed, Set, Drop. -/
import Derived.Test.YthjppjcmapgkpaaM4Ag
namespace Go.Proofs.Ythjppjcmapgkpaa.QAg
open Go.RowKit Go.Maps Go.Proofs.YthjppjcmapgkpaaW.PrintWords Go.Proofs.YthjppjcmapgkpaaW.PrintLast Go.Proofs.YthjppjcmapgkpaaW.PrintMore
set_option linter.unusedVariables false
set_option linter.unusedSimpArgs false
abbrev fSet (g : Nat) : Value := .func (.func 40) #[] #[.pointer (some ⟨g, 0, none⟩)]
abbrev fOut : Value := .func (.func 37) #[] #[]
set_option maxRecDepth 100000 in
set_option maxHeartbeats 2000000 in
theorem changed_none {w : World} {b mb B : Nat} {nx : Int} {M : List En} (h : Ax w b mb B nx M) {id : Int} (hk : (Lit.int .i64 id).wf = true) (hx : atM M id = none) (f : Value) : Calls Try.prog 39 #[.pointer (some ⟨b, 0, none⟩), .int .i64 id, f] w fun r w' => r = .returned (.int .i64 90) ∧ w' = w := by
  obtain ⟨v, n, e, h1, h2, h3, h4⟩ := h
  have HLK := Aside0.mk (h1.tells h2 hk).1
  rw [hx] at HLK
  have HA := Aside0.mk h1
  clear h1 h2 h3 hx h4 hk
  obtain ⟨c0, c1, c2, c3⟩ := HA.out.hq.hp.cells
  clear c0 c1 c3
  have hlk := HLK.out
  simp only [Option.map_some, Option.map_none, ptrO, Option.isSome_none] at hlk
  go_enter Try.func39, Try.ntmps39
  go_wp2_with (go_at_call 33; refine (is_calls HA.out.hq.hp).mono ?_; rintro r w2 ⟨rfl, hw2⟩; replace hw2 := hw2.symm; subst hw2)
  go_ret
  exact ⟨rfl, rfl⟩
set_option maxRecDepth 100000 in
set_option maxHeartbeats 2000000 in
theorem changed_set {w : World} {b mb B gb : Nat} {nx : Int} {M : List En} (h : Ax w b mb B nx M) {id : Int} (hk : (Lit.int .i64 id).wf = true) {x : En} (hx : atM M id = some x) (k m : Int) (hb : w.heap[gb]? = some (.cells (aT k m) 27 (0, 0))) : Calls Try.prog 39 #[.pointer (some ⟨b, 0, none⟩), .int .i64 id, fSet gb] w fun r w' => r = .returned (.int .i64 0) ∧ Ax w' b mb B nx (setM M (newE x k m)) ∧ Ag b mb B w w' := by
  obtain ⟨v, n, e, h1, h2, h3, h4⟩ := h
  have HLK := Aside0.mk (h1.tells h2 hk).1
  rw [hx] at HLK
  have HA := Aside0.mk h1
  obtain ⟨i, hi, he⟩ := (h2.mem x).1 (atM_mem hx).1
  subst he
  have HI := Aside0.mk hi
  have HB := Aside0.mk hb
  have HV := Aside0.mk (And.intro h2 (And.intro h3 h4))
  clear h1 h2 h3 hx h4 hk hi hb
  obtain ⟨c0, c1, c2, c3⟩ := HA.out.hq.hp.cells
  clear c0 c1 c3
  have hlk := HLK.out
  simp only [Option.map_some, Option.map_none, ptrO, Option.isSome_some] at hlk
  go_enter Try.func39, Try.ntmps39
  go_wp2_with (first
    | (go_at_call 33; refine (is_calls HA.out.hq.hp).mono ?_; rintro r w2 ⟨rfl, hw2⟩; replace hw2 := hw2.symm; subst hw2)
    | (go_at_call 40; refine (set1_calls HA.out HI.out k m HB.out).mono ?_; rintro r w3 ⟨rfl, hw3⟩; have HO := Aside0.mk hw3; clear hw3))
  obtain ⟨e2, v', hf, ha⟩ := HO.out.am
  have HX : Aside0 (Ax w3 b mb B nx (setM M (newE (e i) k m))) := ⟨⟨v', n, e2, by rw [idg_set HV.out.1 HI.out (newE (e i) k m) rfl rfl]; exact ha, (HV.out.1.set HI.out (newE (e i) k m) rfl).same (hf.same HI.out), heap_set HV.out.2.1 HI.out hf, HV.out.2.2⟩⟩
  go_ret
  exact ⟨rfl, HX.out, HO.out.ag⟩
set_option maxRecDepth 100000 in
set_option maxHeartbeats 2000000 in
theorem changed_out {w : World} {b mb B : Nat} {nx : Int} {M : List En} (h : Ax w b mb B nx M) {id : Int} (hk : (Lit.int .i64 id).wf = true) {x : En} (hx : atM M id = some x) : Calls Try.prog 39 #[.pointer (some ⟨b, 0, none⟩), .int .i64 id, fOut] w fun r w' => r = .returned (.int .i64 0) ∧ Ax w' b mb B nx (rem M id) ∧ Ag b mb B w w' := by
  obtain ⟨v, n0, e, h1, h2, h3, h4⟩ := h
  have HLK := Aside0.mk (h1.tells h2 hk).1
  rw [hx] at HLK
  obtain ⟨i, hi, he⟩ := (h2.mem x).1 (atM_mem hx).1
  have hid := (atM_mem hx).2
  subst he hid
  obtain ⟨n, rfl⟩ : ∃ n, n0 = n + 1 := ⟨n0 - 1, by omega⟩
  have HID : Aside0 (0 ≤ (e i).id ∧ (e i).id ≤ 1000000) := ⟨by have := h2.rng _ (h2.at hi); omega, by have := h2.rng _ (h2.at hi); omega⟩
  have HA := Aside0.mk h1
  have HI := Aside0.mk hi
  have HV := Aside0.mk (And.intro h2 (And.intro h3 h4))
  clear h1 h2 h3 hx h4 hk hi
  obtain ⟨c0, c1, c2, c3⟩ := HA.out.hq.hp.cells
  clear c0 c1 c3
  have hlk := HLK.out
  simp only [Option.map_some, Option.map_none, ptrO, Option.isSome_some] at hlk
  go_enter Try.func39, Try.ntmps39
  go_wp2_with (first
    | (go_at_call 33; refine (is_calls HA.out.hq.hp).mono ?_; rintro r w2 ⟨rfl, hw2⟩; replace hw2 := hw2.symm; subst hw2)
    | (go_at_call 37; refine (out_calls HA.out HI.out HID.out.1 HID.out.2).mono ?_; rintro r w3 ⟨rfl, hw3⟩; have HO := Aside0.mk hw3; clear hw3))
  have HX : Aside0 (Ax w3 b mb B nx (rem M (e i).id)) := ⟨HO.out.ax HI.out HV.out.1 HV.out.2.1 HV.out.2.2.1 HV.out.2.2.2⟩
  go_ret
  exact ⟨rfl, HX.out, HO.out.ag⟩
set_option maxRecDepth 100000 in
set_option maxHeartbeats 2000000 in
theorem Set_none {w : World} {b mb B : Nat} {nx : Int} {M : List En} (h : Ax w b mb B nx M) {id : Int} (hk : (Lit.int .i64 id).wf = true) (hx : atM M id = none) (k m : Int) : Calls Try.prog 18 #[.pointer (some ⟨b, 0, none⟩), .int .i64 id, .agg (aT k m)] w fun r w' => r = .returned (.int .i64 90) ∧ Below w.heap.size w w' := by
  have HW1 : Aside0 (Below w.heap.size w (w.alloc (.cells (aT k m) 27))) := ⟨(Below.refl _ _).alloc (Nat.le_refl _) _⟩
  have HA := Aside0.mk (h.below HW1.out)
  have HK := Aside0.mk (And.intro hk hx)
  clear h hk hx
  go_enter Try.func18, Try.ntmps18
  go_upto_region 1 with fail
  generalize w.alloc (.cells (aT k m) 27) = w1 at HW1 HA ⊢
  go_wp2_with (go_at_call 39; refine (changed_none HA.out HK.out.1 HK.out.2 _).mono ?_; rintro r w2 ⟨rfl, hw2⟩; replace hw2 := hw2.symm; subst hw2)
  go_ret
  exact ⟨rfl, HW1.out⟩
set_option maxRecDepth 100000 in
set_option maxHeartbeats 2000000 in
theorem Set_some {w : World} {b mb B : Nat} {nx : Int} {M : List En} (h : Ax w b mb B nx M) {id : Int} (hk : (Lit.int .i64 id).wf = true) {x : En} (hx : atM M id = some x) (k m : Int) : Calls Try.prog 18 #[.pointer (some ⟨b, 0, none⟩), .int .i64 id, .agg (aT k m)] w fun r w' => r = .returned (.int .i64 0) ∧ Ax w' b mb B nx (setM M (newE x k m)) ∧ Ag b mb B w w' := by
  have HW1 : Aside0 (Below w.heap.size w (w.alloc (.cells (aT k m) 27))) := ⟨(Below.refl _ _).alloc (Nat.le_refl _) _⟩
  have HB1 : Aside0 ((w.alloc (.cells (aT k m) 27)).heap[w.heap.size]? = some (.cells (aT k m) 27 (0, 0))) := ⟨World.alloc_heap_new _ _⟩
  have HA := Aside0.mk (h.below HW1.out)
  have HK := Aside0.mk (And.intro hk hx)
  clear h hk hx
  go_enter Try.func18, Try.ntmps18
  go_upto_region 1 with fail
  generalize w.alloc (.cells (aT k m) 27) = w1 at HW1 HA HB1 ⊢
  go_wp2_with (go_at_call 39; refine (changed_set HA.out HK.out.1 HK.out.2 k m HB1.out).mono ?_; rintro r w2 ⟨rfl, hx2, hg2⟩; have HX := Aside0.mk (And.intro hx2 ((Ag.of_below HW1.out).trans hg2)); clear hx2 hg2)
  go_ret
  exact ⟨rfl, HX.out.1, HX.out.2⟩
set_option maxRecDepth 100000 in
set_option maxHeartbeats 2000000 in
theorem Drop_none {w : World} {b mb B : Nat} {nx : Int} {M : List En} (h : Ax w b mb B nx M) {id : Int} (hk : (Lit.int .i64 id).wf = true) (hx : atM M id = none) : Calls Try.prog 17 #[.pointer (some ⟨b, 0, none⟩), .int .i64 id] w fun r w' => r = .returned (.int .i64 90) ∧ w' = w := by
  have HA := Aside0.mk h
  have HK := Aside0.mk (And.intro hk hx)
  clear h hk hx
  go_enter Try.func17, Try.ntmps17
  go_wp2_with (go_at_call 39; refine (changed_none HA.out HK.out.1 HK.out.2 _).mono ?_; rintro r w2 ⟨rfl, hw2⟩; replace hw2 := hw2.symm; subst hw2)
  go_ret
  exact ⟨rfl, rfl⟩
set_option maxRecDepth 100000 in
set_option maxHeartbeats 2000000 in
theorem Drop_some {w : World} {b mb B : Nat} {nx : Int} {M : List En} (h : Ax w b mb B nx M) {id : Int} (hk : (Lit.int .i64 id).wf = true) {x : En} (hx : atM M id = some x) : Calls Try.prog 17 #[.pointer (some ⟨b, 0, none⟩), .int .i64 id] w fun r w' => r = .returned (.int .i64 0) ∧ Ax w' b mb B nx (rem M id) ∧ Ag b mb B w w' := by
  have HA := Aside0.mk h
  have HK := Aside0.mk (And.intro hk hx)
  clear h hk hx
  go_enter Try.func17, Try.ntmps17
  go_wp2_with (go_at_call 39; refine (changed_out HA.out HK.out.1 HK.out.2).mono ?_; rintro r w2 ⟨rfl, hx2, hg2⟩; have HX := Aside0.mk (And.intro hx2 hg2); clear hx2 hg2)
  go_ret
  exact ⟨rfl, HX.out.1, HX.out.2⟩
theorem Push_ax {w : World} {b mb B : Nat} {nx : Int} {M : List En} (h : Ax w b mb B nx M) (h2 : nx < 100000) (k m : Int) : Calls Try.prog 15 #[.pointer (some ⟨b, 0, none⟩), .agg (aT k m)] w fun r w' => r = .returned (.tuple #[.int .i64 nx, .int .i64 0]) ∧ ∃ g, Ax w' b mb B (nx + 1) (M ++ [⟨g, nx, k, m⟩]) ∧ Ag b mb B w w' := by
  obtain ⟨v, n, e, h1, hi, hh, h4, h5⟩ := h
  refine (Push_calls h1 (by omega) (by have := hi.nx1; omega) (by omega) (fun x hx => ?_) k m).mono ?_
  · obtain ⟨y, hy, rfl⟩ := List.mem_map.1 hx
    exact (hi.rng y hy).2
  · rintro r w' ⟨rfl, g, v', e2, _, hu, ha, hg⟩
    refine ⟨rfl, g, ⟨v', n + 1, e2, by rw [idg_push]; exact ha, (hi.push ⟨g, nx, k, m⟩ rfl).same (hu.same (Nat.lt_succ_self n)), heap_push hh hu, by omega, by omega⟩, hg⟩
theorem Len_ax {w : World} {b mb B : Nat} {nx : Int} {M : List En} (h : Ax w b mb B nx M) : Calls Try.prog 12 #[.pointer (some ⟨b, 0, none⟩)] w fun r w' => r = .returned (.int .i64 (M.length : Int)) ∧ w' = w := by
  obtain ⟨v, n, e, h1, hi, _⟩ := h
  rw [hi.len]
  exact ALen_calls h1.hq.hp
theorem New_ax (w : World) : Calls Try.prog 8 #[fLess] w fun r w' => r = .returned (.pointer (some ⟨w.heap.size + 1, 0, none⟩)) ∧ Below w.heap.size w w' ∧ Ax w' (w.heap.size + 1) w.heap.size (w.heap.size + 2) 1 [] := by
  refine (New_calls w).mono ?_
  rintro r w' ⟨rfl, h1, h2⟩
  exact ⟨rfl, h1, _, 0, fun _ => ⟨0, 0, 0, 0⟩, h2 _, Inv.start _, fun k _ hk => by omega, by decide, by decide⟩
end Go.Proofs.Ythjppjcmapgkpaa.QAg
