/- Texts of this claim, joined: VADe, VBDe, VCDe. -/
import Derived.Test.YtoliipbmcekciaaDoorZ07
import Derived.Laws.CopyOwn
import Derived.Laws.ResultCell
import Derived.StillTailTactics
import Derived.BigRegion
namespace Go.Proofs.YtoliipbmcekciaaDoor.QDd
open Go.RowKit Go.Proofs.YtoliipbmcekciaaDoorW.PrintWords Go.Proofs.YtoliipbmcekciaaDoorW.PrintLast Go.Proofs.YtoliipbmcekciaaDoorW.PrintMore
open Go.Proofs.YtoliipbmcekciaaDoor.QDc (tk putL putN obj_below take_at yields_blk load_blk load_any store_blk blk_setCells setAll far_setCells below_setCells)
set_option linter.unusedVariables false
set_option linter.unusedSimpArgs false
theorem bl_mem (s : Int) (x : Int) : ∀ m : Nat, x ∈ bl s m ↔ ∃ i : Nat, i < m ∧ x = (i : Int) ∧ hasBit s (i : Int) = true
  | 0 => by unfold bl; simp
  | m + 1 => by
    unfold bl
    have ih := bl_mem s x m
    split
    · rename_i hb
      rw [List.mem_append, ih]
      constructor
      · rintro (⟨i, h1, h2, h3⟩ | h)
        · exact ⟨i, by omega, h2, h3⟩
        · exact ⟨m, by omega, by simpa using h, hb⟩
      · rintro ⟨i, h1, h2, h3⟩
        by_cases e : i = m
        · subst e; exact Or.inr (by simpa using h2)
        · exact Or.inl ⟨i, by omega, h2, h3⟩
    · rename_i hb
      rw [ih]
      constructor
      · rintro ⟨i, h1, h2, h3⟩; exact ⟨i, by omega, h2, h3⟩
      · rintro ⟨i, h1, h2, h3⟩
        by_cases e : i = m
        · subst e; exact absurd h3 hb
        · exact ⟨i, by omega, h2, h3⟩
theorem high_bits {s : Int} (hs : U64 s) (n : Nat) (hn : n < 64) : (bl s 64).any (fun x => decide ((n : Int) ≤ x)) = (s / 2 ^ n != 0) := by
  obtain ⟨a, rfl⟩ := Int.eq_ofNat_of_zero_le hs.1
  have ha : a < 18446744073709551616 := by have := hs.2; omega
  have e : ((a : Int) / 2 ^ n) = ((a / 2 ^ n : Nat) : Int) := by push_cast; rfl
  rw [e, Bool.eq_iff_iff, List.any_eq_true]
  constructor
  · rintro ⟨x, hx, hd⟩
    obtain ⟨i, hi, rfl, hb⟩ := (bl_mem _ _ _).1 hx
    have hni : n ≤ i := by have := of_decide_eq_true hd; omega
    rw [hasBit_nat a i ha hi] at hb
    have ht : (a / 2 ^ n).testBit (i - n) = true := by
      rw [Nat.testBit_div_two_pow, show i - n + n = i by omega]; exact hb
    have : a / 2 ^ n ≠ 0 := by
      intro h0
      rw [h0, Nat.zero_testBit] at ht
      exact absurd ht (by decide)
    simp
    omega
  · intro h
    have h0 : a / 2 ^ n ≠ 0 := by
      intro h2
      rw [h2] at h
      exact absurd h (by decide)
    have hx : ∃ j, (a / 2 ^ n).testBit j = true := by
      by_cases hh : ∃ j, (a / 2 ^ n).testBit j = true
      · exact hh
      · exfalso
        apply h0
        apply Nat.eq_of_testBit_eq
        intro j
        rw [Nat.zero_testBit]
        cases hb : (a / 2 ^ n).testBit j with
        | false => rfl
        | true => exact absurd ⟨j, hb⟩ hh
    obtain ⟨j, hj⟩ := hx
    rw [Nat.testBit_div_two_pow] at hj
    have hlt : j + n < 64 := by
      by_cases hc : j + n < 64
      · exact hc
      · exfalso
        have : a < 2 ^ (j + n) := Nat.lt_of_lt_of_le (show a < 2 ^ 64 by omega) (Nat.pow_le_pow_right (by decide) (by omega))
        rw [Nat.testBit_lt_two_pow this] at hj
        exact absurd hj (by decide)
    exact ⟨((j + n : Nat) : Int), (bl_mem _ _ _).2 ⟨j + n, hlt, rfl, by rw [hasBit_nat a (j + n) ha hlt]; exact hj⟩, decide_eq_true (by omega)⟩
def MV (C : Array Value) (r : Nat → Int) (n : Int) : Prop := C.size = 65 ∧ (∀ i, i < 64 → C[i]? = some (.int .u64 (r i))) ∧ C[64]? = some (.int .i64 n)
theorem MV.set {C : Array Value} {r : Nat → Int} {n : Int} (h : MV C r n) {i : Nat} (hi : i < 64) (v : Int) : MV (C.setIfInBounds i (.int .u64 v)) (fun j => if j = i then v else r j) n := by
  refine ⟨by rw [Array.size_setIfInBounds]; exact h.1, fun j hj => ?_, ?_⟩
  · rw [Array.getElem?_setIfInBounds]
    by_cases e : i = j
    · subst e; rw [if_pos rfl, if_pos (by rw [h.1]; omega)]; simp
    · rw [if_neg e, h.2.1 j hj]; simp [show ¬ j = i from fun h => e h.symm]
  · rw [Array.getElem?_setIfInBounds, if_neg (by omega)]; exact h.2.2
theorem MV.setN {C : Array Value} {r : Nat → Int} {n : Int} (h : MV C r n) (v : Int) : MV (C.setIfInBounds 64 (.int .i64 v)) r v := by
  refine ⟨by rw [Array.size_setIfInBounds]; exact h.1, fun j hj => ?_, ?_⟩
  · rw [Array.getElem?_setIfInBounds, if_neg (by omega)]; exact h.2.1 j hj
  · rw [Array.getElem?_setIfInBounds, if_pos rfl, if_pos (by rw [h.1]; omega)]
theorem mv_cell {C : Array Value} {r : Nat → Int} {n : Int} {w : World} {g : Nat} (h : MV C r n) (hg : w.heap[g]? = some (.cells C 163 (0, 0))) : (∀ i, i < 64 → w.cell? ⟨g, i, none⟩ = some (.int .u64 (r i))) ∧ w.cell? ⟨g, 64, none⟩ = some (.int .i64 n) ∧ ∀ i, w.frozen? ⟨g, i, none⟩ = false := by
  refine ⟨fun i hi => ?_, ?_, fun i => ?_⟩
  · simp only [World.cell?, hg]; exact h.2.1 i hi
  · simp only [World.cell?, hg]; exact h.2.2
  · simp [World.frozen?, hg]
theorem zero_mv : MV Tryd.zeroCells163 (fun _ => 0) 0 := by
  refine ⟨by kernel_rfl, fun i hi => ?_, by kernel_rfl⟩
  have e : Tryd.zeroCells163 = (List.replicate 64 (Value.int .u64 0) ++ [Value.int .i64 0]).toArray := by kernel_rfl
  rw [e, List.getElem?_toArray, List.getElem?_append_left (by rw [List.length_replicate]; exact hi), List.getElem?_replicate, if_pos hi]
theorem splice_mv {l : List Int} (hl : l.length ≤ 64) : MV (splice Tryd.zeroCells163.toList 0 (l.map (fun x => Value.int .u64 x))).toArray (fun i => rd l (i : Int)) 0 := by
  have hz := zero_mv
  have hzl : Tryd.zeroCells163.toList.length = 65 := by rw [Array.length_toList]; exact hz.1
  have get : ∀ i : Nat, (splice Tryd.zeroCells163.toList 0 (l.map (fun x => Value.int .u64 x)))[i]? = if i < l.length then (l.map (fun x => Value.int .u64 x))[i]? else Tryd.zeroCells163.toList[i]? := by
    intro i
    unfold splice
    rw [List.take_zero, List.nil_append, List.length_map]
    by_cases hi : i < l.length
    · rw [if_pos hi, List.getElem?_append_left (by rw [List.length_map]; exact hi)]
    · rw [if_neg hi, List.getElem?_append_right (by rw [List.length_map]; omega), List.length_map, List.getElem?_drop]
      congr 1
      omega
  refine ⟨?_, fun i hi => ?_, ?_⟩
  · rw [List.size_toArray, length_splice _ _ _ (by rw [List.length_map]; omega)]; exact hzl
  · rw [List.getElem?_toArray, get]
    show _ = some (Value.int .u64 (rd l (i : Int)))
    unfold rd
    rw [Int.toNat_natCast]
    by_cases h : i < l.length
    · rw [if_pos h, List.getElem?_map, List.getElem?_eq_getElem h, List.getD_eq_getElem?_getD, List.getElem?_eq_getElem h]; rfl
    · have e2 : l.getD i 0 = 0 := by rw [List.getD_eq_getElem?_getD, List.getElem?_eq_none (by omega)]; rfl
      rw [if_neg h, e2, Array.getElem?_toList]
      exact hz.2.1 i hi
  · rw [List.getElem?_toArray, get, if_neg (by omega), Array.getElem?_toList]
    exact hz.2.2
structure QB (C D : Array Value) (w w2 : World) : Prop where
  b : Below w.heap.size w w2
  e0 : w2.heap[w.heap.size]? = some (.cells C 163 (0, 0))
  e1 : w2.heap[w.heap.size + 1]? = some (.cells D 163 (0, 0))
theorem QB.start (C D : Array Value) (w : World) : QB C D w ((w.alloc (.cells C 163)).alloc (.cells D 163)) :=
  ⟨((Below.refl _ w).alloc (Nat.le_refl _) _).alloc (by simp) _, (Below.heap_alloc _ _ _ (by simp)).trans (World.alloc_heap_new w _), by have := World.alloc_heap_new (w.alloc (.cells C 163)) (.cells D 163); rwa [World.size_alloc] at this⟩
theorem QB.below {C D : Array Value} {w w2 w3 : World} (h : QB C D w w2) (hb : Below w2.heap.size w2 w3) : QB C D w w3 := ⟨h.b.trans (hb.mono h.b.size), obj_below hb h.e0, obj_below hb h.e1⟩
def rowLong (l : List Int) (i : Nat) : Bool := rd l (i : Int) / 2 ^ l.length != 0
theorem mv_one {C : Array Value} {r : Nat → Int} {n : Int} (h : MV C r n) : C.all (·.oneCell') = true := by
  rw [Array.all_eq_true]
  intro i hi
  have h2 : C[i]? = some C[i] := Array.getElem?_eq_getElem hi
  rw [h.1] at hi
  by_cases e : i < 64
  · rw [h.2.1 i e] at h2
    rw [← Option.some.inj h2]; rfl
  · have : i = 64 := by omega
    subst this
    rw [h.2.2] at h2
    rw [← Option.some.inj h2]; rfl
theorem mv_info {C : Array Value} {r : Nat → Int} {n : Int} (h : MV C r n) : (Tryd.prog.info? 163).map (·.size) = some C.size := by rw [h.1]; kernel_rfl
theorem res_mat {fn : Func} (h : fn.results = #[.cell 2 163, .tmp 3]) {tmps : Array Value} {w : World} {g : Nat} {C : Array Value} {v : Value} {r : Nat → Int} {n : Int} (hC : MV C r n) (hp : tmps.getD 2 undef = .pointer (some ⟨g, 0, none⟩)) (hv : tmps.getD 3 undef = v) (hg : w.heap[g]? = some (.cells C 163 (0, 0))) :
    (results fn tmps).run Tryd.prog w = .ok (.tuple #[.agg C, v]) w := by
  rw [results_cell_tmp h, hp, hv]
  have hl := run_loadVar_row (P := Tryd.prog) w g 163 163 C (0, 0) _ hg Tryd.underlying163 rfl (mv_info hC)
  simp [asAddr, hl]
theorem copy_pos {A : Option Addr} {l : List Int} {w : World} (hr : Kd.C (Kd.int .u64) w A l.length l) {g : Nat} (h : 0 < (l.map (fun x => Value.int .u64 x)).length) : (some (⟨g, 0, none⟩ : Addr) = some ⟨g, 0, none⟩) ∧ ∃ ad, A = some ad ∧ ∀ j v, (l.map (fun x => Value.int .u64 x))[j]? = some v → w.cell? (ad.add j) = some v := by
  rw [List.length_map] at h
  obtain ⟨ad, eA, _⟩ := Kd.at_int hr 0 (by decide) (by omega)
  refine ⟨rfl, ad, eA, fun j v hv => ?_⟩
  rw [List.getElem?_map] at hv
  have hj : j < l.length := by
    by_cases hj : j < l.length
    · exact hj
    · rw [List.getElem?_eq_none (by omega)] at hv; exact absurd hv (by simp)
  obtain ⟨ad2, eA2, h2⟩ := Kd.at_int hr (j : Int) (by omega) (by omega)
  cases eA.symm.trans eA2
  rw [Int.toNat_natCast] at h2
  rw [h2, ← hv, List.getElem?_eq_getElem hj]
  unfold rd
  rw [Int.toNat_natCast, List.getD_eq_getElem?_getD, List.getElem?_eq_getElem hj]
  rfl
def OfI (l : List Int) (D : Array Value) (w : World) (m : Nat) (wr : World) : Prop := QB Tryd.zeroCells163 D w wr ∧ m ≤ l.length ∧ ∀ j, j < m → rowLong l j = false
set_option maxRecDepth 100000 in
set_option maxHeartbeats 2000000 in
theorem of_calls (A : Option Addr) (c : Nat) (l : List Int) (w : World) (hr : Kd.C (Kd.int .u64) w A l.length l) (h16 : l.length ≤ 16) : Calls Tryd.prog 120 #[.slice A l.length c] w fun e w' =>
    ((∃ C, e = .returned (.tuple #[.agg C, .int .i64 0]) ∧ MV C (fun i => rd l (i : Int)) l.length ∧ ∀ j, j < l.length → rowLong l j = false) ∨ (∃ C, e = .returned (.tuple #[.agg C, .int .i64 10]) ∧ MV C (fun _ => 0) 0 ∧ ∃ j, j < l.length ∧ rowLong l j = true)) ∧ Below w.heap.size w w' := by
  have HR0 := Aside0.mk hr
  have HL64 : Aside0 (l.length ≤ 64) := ⟨by omega⟩
  have d64 : decide ((l.length : Int) > 64) = false := decide_eq_false (by omega)
  have d64' : decide (64 < l.length) = false := decide_eq_false (by omega)
  clear hr
  go_enter Tryd.func120, Tryd.ntmps120
  go_upto_region 2 with fail
  have HQ := Aside0.mk (QB.start Tryd.zeroCells163 Tryd.zeroCells163 w)
  generalize (w.alloc (.cells Tryd.zeroCells163 163)).alloc (.cells Tryd.zeroCells163 163) = w2 at HQ ⊢
  have HR : Aside0 (Kd.C (Kd.int .u64) w2 A l.length l) := ⟨Kd.C_below HR0.out HQ.out.b⟩
  have HE1 : Aside0 (w2.heap[w.heap.size + 1]? = some (.cells Tryd.zeroCells163.toList.toArray 163 (0, 0))) := ⟨by rw [Array.toArray_toList]; exact HQ.out.e1⟩
  have HLEN : Aside0 ((l.map (fun x => Value.int .u64 x)).length = Nat.min l.length 64) := ⟨by rw [List.length_map]; exact (Nat.min_eq_left HL64.out).symm⟩
  have HFIT : Aside0 (0 + (l.map (fun x => Value.int .u64 x)).length ≤ Tryd.zeroCells163.toList.length) := ⟨by rw [List.length_map, Array.length_toList (xs := Tryd.zeroCells163), zero_mv.1]; have := HL64.out; omega⟩
  have HONE : Aside0 (∀ v ∈ l.map (fun x => Value.int .u64 x), v.oneCell' = true) := ⟨fun v hv => by obtain ⟨x, _, rfl⟩ := List.mem_map.1 hv; rfl⟩
  go_upto_region 5 with ((with_reducible refine gate_ (.call { callee := .builtin .copy, args := #[.tmp 11, .tmp 12], argTypes := #[22, 22] }) rfl ?_); refine wpList_copy_splice rfl (.tmp 11) (.tmp 12) 22 22 rfl 45 Tryd.underlying22 (by kernel_rfl) (some ⟨w.heap.size + 1, 0, none⟩) A 64 64 l.length c rfl rfl (w.heap.size + 1) 0 Tryd.zeroCells163.toList 163 HE1.out (l.map (fun x => Value.int .u64 x)) HLEN.out (copy_pos HR.out) HFIT.out HONE.out (w.heap.size + 1) w2 (Below.refl _ _) (Nat.le_refl _) ?_; intro w4 hh hb; have hh' := (mv_cell (splice_mv HL64.out) hh); have x64 := hh'.2.1; have f64 := hh'.2.2 64; have HW4 := Aside0.mk (And.intro hh hb); clear hh hb hh'; rw [show goInt (l.map (fun x => Value.int .u64 x)).length = .int .i64 (l.length : Int) by rw [List.length_map]; rfl])
  clear x64 f64
  have hlt0 : w.heap.size < w.heap.size + 1 := Nat.lt_succ_self _
  obtain ⟨D, hD⟩ : ∃ D, ((splice Tryd.zeroCells163.toList 0 (l.map (fun x => Value.int .u64 x))).toArray).setIfInBounds 64 (.int .i64 (l.length : Int)) = D := ⟨_, rfl⟩
  have HD : Aside0 (MV D (fun i => rd l (i : Int)) l.length) := ⟨hD ▸ (splice_mv HL64.out).setN _⟩
  have H5 : Aside0 (QB Tryd.zeroCells163 D w (w4.setCell ⟨w.heap.size + 1, 64, none⟩ (.int .i64 (l.length : Int)))) := ⟨⟨(HQ.out.b.trans (HW4.out.2.mono (Nat.le_succ _))).setCell (p := ⟨w.heap.size + 1, 64, none⟩) (Nat.le_succ _) _, (Below.heap_setCell _ _ _ _ (Nat.ne_of_lt hlt0)).trans ((HW4.out.2.block _ hlt0).trans HQ.out.e0), by rw [← hD]; exact blk_set (show w4.heap[w.heap.size + 1]? = _ from HW4.out.1) 64 _⟩⟩
  generalize w4.setCell ⟨w.heap.size + 1, 64, none⟩ (.int .i64 (l.length : Int)) = w5 at H5 ⊢
  clear hD HW4 HE1 HLEN HFIT HONE HR HQ
  have H0 : Aside0 (OfI l D w 0 w5) := ⟨⟨H5.out, Nat.zero_le _, fun j hj => absurd hj (by omega)⟩⟩
  have y64 := (mv_cell HD.out H5.out.e1).2.1
  go_wp2_with fail
  go_loopw [5, 17] (fun _ i wr => ∃ m : Nat, i = .int .i64 (m : Int) ∧ Aside0 (OfI l D w m wr)) (fun _ i _ => l.length - (intOf i).toNat)
  case atStart => exact ⟨0, rfl, H0⟩
  case round =>
    clear H0 H5 y64
    obtain ⟨m, rfl, hS⟩ := hrel
    have y64 := (mv_cell HD.out hS.out.1.e1).2.1
    by_cases h1 : (m : Int) < (l.length : Int)
    · have e1 : decide ((m : Int) < (l.length : Int)) = true := decide_eq_true h1
      have H1 := Aside0.mk h1
      have ym := (mv_cell HD.out hS.out.1.e1).1 m (by omega)
      have hm0 : (0 : Int) ≤ (m : Int) := by omega
      have hm64 : (m : Int) < 64 := by omega
      have hm64' : m < 64 := by omega
      have e64 : decide ((l.length : Int) < 64) = true := decide_eq_true (by omega)
      have e64' : decide (l.length < 64) = true := decide_eq_true (by omega)
      have hmin : min l.length 64 = l.length := by omega
      obtain ⟨q, hq⟩ : ∃ q, rowLong l m = q := ⟨_, rfl⟩
      have HQ := Aside0.mk hq
      have hh : (rd l (m : Int) / 2 ^ l.length != 0) = q := hq
      generalize rd l (m : Int) = s at hh ym
      have hz : (s / 2 ^ min (IntKind.u64.wrap (l.length : Int)).toNat 64 != 0) = q := by rw [show (IntKind.u64.wrap (l.length : Int)).toNat = l.length by rw [IntKind.wrap_u64]; omega, hmin]; exact hh
      clear hq
      go_upto_region 8 with fail
      cases q with
      | true =>
        have hh2 : decide (s / 2 ^ l.length = 0) = false := decide_eq_false (fun h => by rw [h] at hh; exact absurd hh (by decide))
        refine wp_region_held_drew (S := fun w' => Below wr.heap.size wr w') (by kernel_rfl) (pw_below_drewN (Below.refl _ _) 1) (fun hHeld => ?_)
        generalize wr.drew = wd at hHeld ⊢
        refine tk (i := 0) (v := _) 20 rfl (Or.inl ⟨by rfl, fun w' hW => by have hq0 := pw_cell_below hW y64; have hq1 := pw_cell_below hW ym; go_simp; try (first | with_reducible rfl | rfl)⟩) hHeld ?_
        try simp only [putL, putN, List.set]
        refine tk (i := 1) (v := _) 21 rfl (Or.inl ⟨by rfl, fun w' hW => by have hq0 := pw_cell_below hW y64; have hq1 := pw_cell_below hW ym; go_simp; try (first | with_reducible rfl | rfl)⟩) hHeld ?_
        try simp only [putL, putN, List.set]
        refine tk (i := 2) (v := _) 22 rfl (Or.inl ⟨by rfl, fun w' hW => by have hq0 := pw_cell_below hW y64; have hq1 := pw_cell_below hW ym; go_simp; try (first | with_reducible rfl | rfl)⟩) hHeld ?_
        try simp only [putL, putN, List.set]
        refine tk (i := 3) (v := _) 23 rfl (Or.inl ⟨by rfl, fun w' hW => by have hq0 := pw_cell_below hW y64; have hq1 := pw_cell_below hW ym; go_simp; try (first | with_reducible rfl | rfl)⟩) hHeld ?_
        try simp only [putL, putN, List.set]
        refine tk (i := 4) (v := _) 24 rfl (Or.inl ⟨by rfl, fun w' hW => by have hq0 := pw_cell_below hW y64; have hq1 := pw_cell_below hW ym; go_simp; try (first | with_reducible rfl | rfl)⟩) hHeld ?_
        try simp only [putL, putN, List.set]
        refine tk (i := 5) (v := _) 25 rfl (Or.inl ⟨by rfl, fun w' hW => by have hq0 := pw_cell_below hW y64; have hq1 := pw_cell_below hW ym; go_simp; try (first | with_reducible rfl | rfl)⟩) hHeld ?_
        try simp only [putL, putN, List.set]
        refine tk (i := 8) (v := _) 28 rfl (Or.inl ⟨by rfl, fun w' hW => by have hq0 := pw_cell_below hW y64; have hq1 := pw_cell_below hW ym; go_simp; try (first | with_reducible rfl | rfl)⟩) hHeld ?_
        try simp only [putL, putN, List.set]
        refine tk (i := 6) (v := _) 26 rfl (Or.inl ⟨by rfl, fun w' hW => by have hq0 := pw_cell_below hW y64; have hq1 := pw_cell_below hW ym; go_simp; try (first | with_reducible rfl | rfl)⟩) hHeld ?_
        try simp only [putL, putN, List.set]
        refine tk (i := 9) (v := _) 29 rfl (Or.inl ⟨by rfl, fun w' hW => by have hq0 := pw_cell_below hW y64; have hq1 := pw_cell_below hW ym; go_simp; try (first | with_reducible rfl | rfl)⟩) hHeld ?_
        try simp only [putL, putN, List.set]
        refine tk (i := 7) (v := _) 27 rfl (Or.inl ⟨by rfl, fun w' hW => by have hq0 := pw_cell_below hW y64; have hq1 := pw_cell_below hW ym; go_simp; try (first | with_reducible rfl | rfl)⟩) hHeld ?_
        try simp only [putL, putN, List.set]
        refine tk (i := 10) (v := _) 30 rfl (Or.inl ⟨by rfl, fun w' hW => by have hq0 := pw_cell_below hW y64; have hq1 := pw_cell_below hW ym; go_simp; try (first | with_reducible rfl | rfl)⟩) hHeld ?_
        try simp only [putL, putN, List.set]
        refine tk (i := 11) (v := _) 31 rfl (Or.inl ⟨by rfl, fun w' hW => by have hq0 := pw_cell_below hW y64; have hq1 := pw_cell_below hW ym; go_simp; try (first | with_reducible rfl | rfl)⟩) hHeld ?_
        try simp only [putL, putN, List.set]
        refine tk (i := 12) (v := _) 32 rfl (Or.inl ⟨by rfl, fun w' hW => by have hq0 := pw_cell_below hW y64; have hq1 := pw_cell_below hW ym; go_simp; try (first | with_reducible rfl | rfl)⟩) hHeld ?_
        try simp only [putL, putN, List.set]
        refine tk (i := 13) (v := _) 33 rfl (Or.inl ⟨by rfl, fun w' hW => by have hq0 := pw_cell_below hW y64; have hq1 := pw_cell_below hW ym; go_simp; try (first | with_reducible rfl | rfl)⟩) hHeld ?_
        try simp only [putL, putN, List.set]
        have N0 := Aside0.mk hHeld
        refine wpAnyH_done (by kernel_rfl) ?_ _
        clear hHeld
        have hS2 : Aside0 (OfI l D w m wd) := ⟨⟨hS.out.1.below N0.out, hS.out.2⟩⟩
        clear hS
        have hS := hS2
        clear hS2
        go_wp2_with (first | ((with_reducible refine gate_store (t := 163) (p := 2) rfl ?_); refine store_blk rfl 163 (.tmp 2) (.tmp 34) rfl w.heap.size 0 Tryd.zeroCells163 Tryd.zeroCells163 163 rfl rfl hS.out.1.e0 (by have h1 := (zero_mv).1; have h2 := zero_mv.1; omega) (mv_info (zero_mv)) (mv_one (zero_mv)) ?_; intro w6 hw6 hh6; rw [setAll_all Tryd.zeroCells163 Tryd.zeroCells163 (by have h1 := (zero_mv).1; have h2 := zero_mv.1; omega)] at hh6; have HW6 := Aside0.mk (And.intro hw6 hh6); clear hw6 hh6))
        exact bodyPost_ret (res_mat (v := .int .i64 10) rfl (zero_mv) rfl rfl HW6.out.2) rfl ⟨Or.inr ⟨_, rfl, zero_mv, m, by have := H1.out; omega, HQ.out⟩, by rw [HW6.out.1]; exact below_setCells (Nat.le_refl _) _ _ _ hS.out.1.b⟩
      | false =>
        have hh2 : decide (s / 2 ^ l.length = 0) = true := decide_eq_true (by simpa using hh)
        refine wp_region_held_drew (S := fun w' => Below wr.heap.size wr w') (by kernel_rfl) (pw_below_drewN (Below.refl _ _) 1) (fun hHeld => ?_)
        generalize wr.drew = wd at hHeld ⊢
        refine tk (i := 0) (v := _) 20 rfl (Or.inl ⟨by rfl, fun w' hW => by have hq0 := pw_cell_below hW y64; have hq1 := pw_cell_below hW ym; go_simp; try (first | with_reducible rfl | rfl)⟩) hHeld ?_
        try simp only [putL, putN, List.set]
        refine tk (i := 1) (v := _) 21 rfl (Or.inl ⟨by rfl, fun w' hW => by have hq0 := pw_cell_below hW y64; have hq1 := pw_cell_below hW ym; go_simp; try (first | with_reducible rfl | rfl)⟩) hHeld ?_
        try simp only [putL, putN, List.set]
        refine tk (i := 2) (v := _) 22 rfl (Or.inl ⟨by rfl, fun w' hW => by have hq0 := pw_cell_below hW y64; have hq1 := pw_cell_below hW ym; go_simp; try (first | with_reducible rfl | rfl)⟩) hHeld ?_
        try simp only [putL, putN, List.set]
        refine tk (i := 3) (v := _) 23 rfl (Or.inl ⟨by rfl, fun w' hW => by have hq0 := pw_cell_below hW y64; have hq1 := pw_cell_below hW ym; go_simp; try (first | with_reducible rfl | rfl)⟩) hHeld ?_
        try simp only [putL, putN, List.set]
        refine tk (i := 4) (v := _) 24 rfl (Or.inl ⟨by rfl, fun w' hW => by have hq0 := pw_cell_below hW y64; have hq1 := pw_cell_below hW ym; go_simp; try (first | with_reducible rfl | rfl)⟩) hHeld ?_
        try simp only [putL, putN, List.set]
        refine tk (i := 5) (v := _) 25 rfl (Or.inl ⟨by rfl, fun w' hW => by have hq0 := pw_cell_below hW y64; have hq1 := pw_cell_below hW ym; go_simp; try (first | with_reducible rfl | rfl)⟩) hHeld ?_
        try simp only [putL, putN, List.set]
        refine tk (i := 8) (v := _) 28 rfl (Or.inl ⟨by rfl, fun w' hW => by have hq0 := pw_cell_below hW y64; have hq1 := pw_cell_below hW ym; go_simp; try (first | with_reducible rfl | rfl)⟩) hHeld ?_
        try simp only [putL, putN, List.set]
        refine tk (i := 6) (v := _) 26 rfl (Or.inl ⟨by rfl, fun w' hW => by have hq0 := pw_cell_below hW y64; have hq1 := pw_cell_below hW ym; go_simp; try (first | with_reducible rfl | rfl)⟩) hHeld ?_
        try simp only [putL, putN, List.set]
        refine tk (i := 9) (v := _) 29 rfl (Or.inl ⟨by rfl, fun w' hW => by have hq0 := pw_cell_below hW y64; have hq1 := pw_cell_below hW ym; go_simp; try (first | with_reducible rfl | rfl)⟩) hHeld ?_
        try simp only [putL, putN, List.set]
        refine tk (i := 7) (v := _) 27 rfl (Or.inl ⟨by rfl, fun w' hW => by have hq0 := pw_cell_below hW y64; have hq1 := pw_cell_below hW ym; go_simp; try (first | with_reducible rfl | rfl)⟩) hHeld ?_
        try simp only [putL, putN, List.set]
        refine tk (i := 10) (v := _) 30 rfl (Or.inl ⟨by rfl, fun w' hW => by have hq0 := pw_cell_below hW y64; have hq1 := pw_cell_below hW ym; go_simp; try (first | with_reducible rfl | rfl)⟩) hHeld ?_
        try simp only [putL, putN, List.set]
        refine tk (i := 11) (v := _) 31 rfl (Or.inl ⟨by rfl, fun w' hW => by have hq0 := pw_cell_below hW y64; have hq1 := pw_cell_below hW ym; go_simp; try (first | with_reducible rfl | rfl)⟩) hHeld ?_
        try simp only [putL, putN, List.set]
        refine tk (i := 12) (v := _) 32 rfl (Or.inl ⟨by rfl, fun w' hW => by have hq0 := pw_cell_below hW y64; have hq1 := pw_cell_below hW ym; go_simp; try (first | with_reducible rfl | rfl)⟩) hHeld ?_
        try simp only [putL, putN, List.set]
        refine tk (i := 13) (v := _) 33 rfl (Or.inl ⟨by rfl, fun w' hW => by have hq0 := pw_cell_below hW y64; have hq1 := pw_cell_below hW ym; go_simp; try (first | with_reducible rfl | rfl)⟩) hHeld ?_
        try simp only [putL, putN, List.set]
        have N0 := Aside0.mk hHeld
        refine wpAnyH_done (by kernel_rfl) ?_ _
        clear hHeld
        go_wp2_with fail
        go_roundw
        case rel => exact ⟨m + 1, by go_num, ⟨hS.out.1.below N0.out, by have := H1.out; omega, fun j hj => by
          by_cases e : j = m
          · subst e; exact HQ.out
          · exact hS.out.2.2 j (by omega)⟩⟩
        case measure => simp [intOf]; have := H1.out; omega
    · have e1 : decide ((m : Int) < (l.length : Int)) = false := decide_eq_false h1
      have H1 := Aside0.mk h1
      go_wp2_with (first | ((with_reducible refine gate_ (.load 163 (.tmp 4)) rfl ?_); refine load_blk rfl 163 (.tmp 4) rfl (w.heap.size + 1) D 163 rfl _ hS.out.1.e1 Tryd.underlying163 rfl (mv_info HD.out) ?_) | ((with_reducible refine gate_store (t := 163) (p := 2) rfl ?_); refine store_blk rfl 163 (.tmp 2) (.tmp 36) rfl w.heap.size 0 D Tryd.zeroCells163 163 rfl rfl hS.out.1.e0 (by have h1 := (HD.out).1; have h2 := zero_mv.1; omega) (mv_info (HD.out)) (mv_one (HD.out)) ?_; intro w6 hw6 hh6; rw [setAll_all Tryd.zeroCells163 D (by have h1 := (HD.out).1; have h2 := zero_mv.1; omega)] at hh6; have HW6 := Aside0.mk (And.intro hw6 hh6); clear hw6 hh6))
      exact bodyPost_ret (res_mat (v := .int .i64 0) rfl (HD.out) rfl rfl HW6.out.2) rfl ⟨Or.inl ⟨_, rfl, HD.out, fun j hj => hS.out.2.2 j (by have := H1.out; omega)⟩, by rw [HW6.out.1]; exact below_setCells (Nat.le_refl _) _ _ _ hS.out.1.b⟩
def putR (r : Nat → Int) (i : Nat) (v : Int) : Nat → Int := fun j => if j = i then v else r j
def reflTo (r : Nat → Int) : Nat → Nat → Int
  | 0 => r
  | m + 1 => putR (reflTo r m) m (bits .or .u64 (reflTo r m m) (shl .u64 1 (m : Int)))
def stepTo (r : Nat → Int) (k a : Nat) : Nat → Int := if hasBit (r a) (k : Int) = true then putR r a (bits .or .u64 (r a) (r k)) else r
def inTo (r : Nat → Int) (k : Nat) : Nat → Nat → Int
  | 0 => r
  | m + 1 => stepTo (inTo r k m) k m
def outTo (r : Nat → Int) (n : Nat) : Nat → Nat → Int
  | 0 => r
  | m + 1 => inTo (outTo r n m) m n
def closF (r : Nat → Int) (n : Nat) : Nat → Int := outTo (reflTo r n) n n
def ClI (n : Nat) (w : World) (r : Nat → Int) (wr : World) : Prop := ∃ D, QB D Tryd.zeroCells163 w wr ∧ MV D r n
theorem ClI.below {n : Nat} {w w2 w3 : World} {r : Nat → Int} (h : ClI n w r w2) (hb : Below w2.heap.size w2 w3) : ClI n w r w3 := by
  obtain ⟨D, h1, h2⟩ := h
  exact ⟨D, h1.below hb, h2⟩
theorem ClI.put {n : Nat} {w w2 : World} {r : Nat → Int} (h : ClI n w r w2) {i : Nat} (hi : i < 64) (v : Int) : ClI n w (putR r i v) (w2.setCell ⟨w.heap.size, i, none⟩ (.int .u64 v)) := by
  obtain ⟨D, h1, h2⟩ := h
  exact ⟨_, ⟨h1.b.setCell (p := ⟨w.heap.size, i, none⟩) (Nat.le_refl _) _, blk_set h1.e0 i _, (Below.heap_setCell _ _ _ _ (by simp)).trans h1.e1⟩, h2.set hi v⟩
theorem ClI.cells {n : Nat} {w w2 : World} {r : Nat → Int} (h : ClI n w r w2) : (∀ i, i < 64 → w2.cell? ⟨w.heap.size, i, none⟩ = some (.int .u64 (r i))) ∧ w2.cell? ⟨w.heap.size, 64, none⟩ = some (.int .i64 (n : Int)) ∧ ∀ i, w2.frozen? ⟨w.heap.size, i, none⟩ = false := by
  obtain ⟨D, h1, h2⟩ := h
  exact mv_cell h2 h1.e0
theorem one_eq {m : Nat} (hm : m < 64) : QDb.bits_one.f (m : Int) = some (shl .u64 1 (m : Int)) := by
  unfold QDb.bits_one.f
  have e : IntKind.u64.wrap (m : Int) = (m : Int) := by rw [IntKind.wrap_u64]; omega
  rw [e, if_pos (by omega)]
theorem stepTo_yes {r : Nat → Int} {k a : Nat} (h : hasBit (r a) (k : Int) = true) : stepTo r k a = putR r a (bits .or .u64 (r a) (r k)) := if_pos h
theorem stepTo_no {r : Nat → Int} {k a : Nat} (h : hasBit (r a) (k : Int) = false) : stepTo r k a = r := if_neg (by rw [h]; decide)
set_option maxRecDepth 100000 in
set_option maxHeartbeats 2000000 in
theorem closed_calls (C : Array Value) (r : Nat → Int) (n : Nat) (w : World) (hC : MV C r n) (hn : n ≤ 16) : Calls Tryd.prog 121 #[.agg C] w fun e w' => (∃ D, e = .returned (.agg D) ∧ MV D (closF r n) n) ∧ Below w.heap.size w w' := by
  have HC := Aside0.mk hC
  clear hC
  go_enter Tryd.func121, Tryd.ntmps121
  go_upto_region 1 with fail
  have H0 : Aside0 (ClI n w (reflTo r 0) ((w.alloc (.cells C 163)).alloc (.cells Tryd.zeroCells163 163))) := ⟨⟨C, QB.start C _ w, HC.out⟩⟩
  generalize (w.alloc (.cells C 163)).alloc (.cells Tryd.zeroCells163 163) = w2 at H0 ⊢
  have y64 := H0.out.cells.2.1
  go_wp2_with fail
  go_loopw [3, 8] (fun _ i wr => ∃ m : Nat, i = .int .i64 (m : Int) ∧ Aside0 (m ≤ n ∧ ClI n w (reflTo r m) wr)) (fun _ i _ => n - (intOf i).toNat)
  case atStart => exact ⟨0, rfl, ⟨⟨Nat.zero_le _, H0.out⟩⟩⟩
  case round =>
    clear H0 y64
    obtain ⟨m, rfl, hS⟩ := hrel
    have hmn : m ≤ n := hS.out.1
    by_cases h1 : (m : Int) < (n : Int)
    · have e1 : decide ((m : Int) < (n : Int)) = true := decide_eq_true h1
      have H1 := Aside0.mk h1
      have hm0 : (0 : Int) ≤ (m : Int) := by omega
      have hm64 : (m : Int) < 64 := by omega
      have hm64' : m < 64 := by omega
      have HONE := Aside0.mk (one_eq hm64')
      obtain ⟨x, hx⟩ : ∃ x, reflTo r m m = x := ⟨_, rfl⟩
      have xm := hS.out.2.cells.1 m hm64'
      rw [hx] at xm
      have fm := hS.out.2.cells.2.2 m
      have HX := Aside0.mk hx
      clear hx
      obtain ⟨o1, ho1⟩ : ∃ o, shl .u64 1 (m : Int) = o := ⟨_, rfl⟩
      have HP : Aside0 (∀ q, ClI n w (reflTo r (m + 1)) ((wr.drewN q).setCell ⟨w.heap.size, m, none⟩ (.int .u64 (bits .or .u64 x o1)))) := ⟨fun q => by rw [← HX.out, ← ho1]; exact (hS.out.2.below (pw_below_drewN (Below.refl _ _) q)).put hm64' _⟩
      go_upto_region 4 with fail
      (go_region_with (go_at_call 97; refine (QDb.bits_one.calls (m : Int) (shl .u64 1 (m : Int)) _ HONE.out).mono ?_; rintro e w7 ⟨rfl, ⟨nd, rfl⟩⟩)) <;> (go_wp2_with fail; go_roundw; (case rel => exact ⟨m + 1, by go_num, ⟨⟨by have := H1.out; omega, HP.out _⟩⟩⟩); (case measure => simp [intOf]; have := H1.out; omega))
    · have e1 : decide ((m : Int) < (n : Int)) = false := decide_eq_false h1
      have hm : m = n := by omega
      have H0 : Aside0 (ClI n w (outTo (reflTo r n) n 0) wr) := ⟨by have := hS.out.2; rw [hm] at this; exact this⟩
      clear hS hm
      have y64 := H0.out.cells.2.1
      go_wp2_with fail
      go_loopw [4, 5, 23] (fun _ _ i wr => ∃ k : Nat, i = .int .i64 (k : Int) ∧ Aside0 (k ≤ n ∧ ClI n w (outTo (reflTo r n) n k) wr)) (fun _ _ i _ => n - (intOf i).toNat)
      case atStart => exact ⟨0, rfl, ⟨⟨Nat.zero_le _, H0.out⟩⟩⟩
      case round =>
        clear H0 y64
        obtain ⟨k, rfl, hS⟩ := hrel
        have hkn : k ≤ n := hS.out.1
        have y64 := hS.out.2.cells.2.1
        by_cases h2 : (k : Int) < (n : Int)
        · have e2 : decide ((k : Int) < (n : Int)) = true := decide_eq_true h2
          have H2 := Aside0.mk h2
          have J0 : Aside0 (ClI n w (inTo (outTo (reflTo r n) n k) k 0) wr) := ⟨hS.out.2⟩
          clear hS
          go_wp2_with fail
          go_loopw [5, 28] (fun _ i wr => ∃ a : Nat, i = .int .i64 (a : Int) ∧ Aside0 (a ≤ n ∧ ClI n w (inTo (outTo (reflTo r n) n k) k a) wr)) (fun _ i _ => n - (intOf i).toNat)
          case atStart => exact ⟨0, rfl, ⟨⟨Nat.zero_le _, J0.out⟩⟩⟩
          case round =>
            clear J0 y64
            obtain ⟨a, rfl, hJ⟩ := hrel
            have han : a ≤ n := hJ.out.1
            by_cases h3 : (a : Int) < (n : Int)
            · have e3 : decide ((a : Int) < (n : Int)) = true := decide_eq_true h3
              have H3 := Aside0.mk h3
              have ha0 : (0 : Int) ≤ (a : Int) := by omega
              have hk0 : (0 : Int) ≤ (k : Int) := by omega
              have ha64 : (a : Int) < 64 := by omega
              have hk64 : (k : Int) < 64 := by have := H2.out; omega
              have ha64' : a < 64 := by omega
              have hk64' : k < 64 := by omega
              obtain ⟨R, hR⟩ : ∃ R, inTo (outTo (reflTo r n) n k) k a = R := ⟨_, rfl⟩
              have HR := Aside0.mk hR
              have hJR : Aside0 (ClI n w R wr) := ⟨hR ▸ hJ.out.2⟩
              clear hR hJ
              have xa := hJR.out.cells.1 a ha64'
              have xk := hJR.out.cells.1 k hk64'
              have fa := hJR.out.cells.2.2 a
              obtain ⟨va, hva⟩ : ∃ x, R a = x := ⟨_, rfl⟩
              obtain ⟨vk, hvk⟩ : ∃ x, R k = x := ⟨_, rfl⟩
              rw [hva] at xa
              rw [hvk] at xk
              have HV := Aside0.mk (And.intro hva hvk)
              clear hva hvk
              obtain ⟨q, hq⟩ : ∃ q, hasBit va (k : Int) = q := ⟨_, rfl⟩
              have HB := Aside0.mk ((hq ▸ bits_Has_eq va (k : Int) : QDb.bits_Has.f va (k : Int) = some q))
              have HQ : Aside0 (hasBit (R a) (k : Int) = q) := ⟨by rw [HV.out.1]; exact hq⟩
              clear hq
              cases q with
              | false =>
                go_wp2_with (go_at_call 76; (with_reducible refine (QDb.bits_Has.calls va (k : Int) _ _ HB.out).mono ?_); rintro e w' ⟨rfl, ⟨nd, rfl⟩⟩)
                go_roundw
                case rel => exact ⟨a + 1, by go_num, ⟨⟨by have := H3.out; omega, by rw [inTo, HR.out, stepTo_no HQ.out]; exact hJR.out.below (pw_below_drewN (Below.refl _ _) _)⟩⟩⟩
                case measure => simp [intOf]; have := H3.out; omega
              | true =>
                have HP : Aside0 (∀ q, ClI n w (inTo (outTo (reflTo r n) n k) k (a + 1)) ((wr.drewN q).setCell ⟨w.heap.size, a, none⟩ (.int .u64 (bits .or .u64 va vk)))) := ⟨fun q => by rw [inTo, HR.out, stepTo_yes HQ.out, HV.out.1, HV.out.2]; exact (hJR.out.below (pw_below_drewN (Below.refl _ _) q)).put ha64' _⟩
                go_upto_region 13 with (go_at_call 76; (with_reducible refine (QDb.bits_Has.calls va (k : Int) _ _ HB.out).mono ?_); rintro e w' ⟨rfl, ⟨nd, rfl⟩⟩)
                generalize hwq : wr.drewN _ = wq
                have hJQ : Aside0 (ClI n w R wq) := ⟨hwq ▸ hJR.out.below (pw_below_drewN (Below.refl _ _) _)⟩
                have HPQ : Aside0 (∀ q, ClI n w (inTo (outTo (reflTo r n) n k) k (a + 1)) ((wq.drewN q).setCell ⟨w.heap.size, a, none⟩ (.int .u64 (bits .or .u64 va vk)))) := ⟨fun q => by rw [← hwq, World.drewN_drewN]; exact HP.out _⟩
                clear hwq xa xk fa HP
                have xa := hJQ.out.cells.1 a ha64'
                have xk := hJQ.out.cells.1 k hk64'
                have fa := hJQ.out.cells.2.2 a
                rw [HV.out.1] at xa
                rw [HV.out.2] at xk
                go_still_tail 11, rfl
                go_wp2_with fail
                go_roundw
                case rel => exact ⟨a + 1, by go_num, ⟨⟨by have := H3.out; omega, HPQ.out 1⟩⟩⟩
                case measure => simp [intOf]; have := H3.out; omega
            · have e3 : decide ((a : Int) < (n : Int)) = false := decide_eq_false h3
              have ha : a = n := by omega
              have H3 : Aside0 (ClI n w (outTo (reflTo r n) n (k + 1)) wr) := ⟨by have := hJ.out.2; rw [ha] at this; exact this⟩
              clear hJ ha
              go_wp2_with fail
              go_roundw
              case rel => exact ⟨k + 1, by go_num, ⟨⟨by have := H2.out; omega, H3.out⟩⟩⟩
              case measure => simp [intOf]; have := H2.out; omega
        · have e2 : decide ((k : Int) < (n : Int)) = false := decide_eq_false h2
          have hk : k = n := by omega
          have HE : Aside0 (ClI n w (closF r n) wr) := ⟨by have := hS.out.2; rw [hk] at this; exact this⟩
          clear hS hk
          obtain ⟨D, hD, hM⟩ := HE.out
          have HD := Aside0.mk hD
          have HM := Aside0.mk hM
          clear hD hM y64
          go_wp2_with (first | ((with_reducible refine gate_ (.load 163 (.tmp 1)) rfl ?_); refine load_blk rfl 163 (.tmp 1) rfl w.heap.size D 163 rfl _ HD.out.e0 Tryd.underlying163 rfl (mv_info HM.out) ?_) | ((with_reducible refine gate_store (t := 163) (p := 2) rfl ?_); refine store_blk rfl 163 (.tmp 2) (.tmp 50) rfl (w.heap.size + 1) 0 D Tryd.zeroCells163 163 rfl rfl HD.out.e1 (by have h1 := (HM.out).1; have h2 := zero_mv.1; omega) (mv_info HM.out) (mv_one HM.out) ?_; intro w6 hw6 hh6; rw [setAll_all Tryd.zeroCells163 D (by have h1 := (HM.out).1; have h2 := zero_mv.1; omega)] at hh6; have HW6 := Aside0.mk (And.intro hw6 hh6); clear hw6 hh6))
          exact bodyPost_ret (results_cell_row (P := Tryd.prog) rfl _ _ (w.heap.size + 1) 163 D (0, 0) _ rfl HW6.out.2 Tryd.underlying163 rfl (mv_info HM.out)) rfl ⟨⟨D, rfl, HM.out⟩, by rw [HW6.out.1]; exact below_setCells (Nat.le_succ _) _ _ _ HD.out.b⟩
def rowsL (r : Nat → Int) (n : Nat) : List Int := (List.range n).map r
theorem rowsL_len (r : Nat → Int) (n : Nat) : (rowsL r n).length = n := by unfold rowsL; rw [List.length_map, List.length_range]
theorem rowsL_get (r : Nat → Int) (n j : Nat) (hj : j < n) : (rowsL r n).getD j 0 = r j := by
  unfold rowsL
  rw [List.getD_eq_getElem?_getD, List.getElem?_map, List.getElem?_range hj]
  rfl
theorem rows_reads {C : Array Value} {r : Nat → Int} {n : Nat} {w : World} {g : Nat} (hc : ∀ i, i < 64 → w.cell? ⟨g, i, none⟩ = some (.int .u64 (r i))) (hn : n ≤ 16) : ReadsInt w .u64 (some ⟨g, 0, none⟩) n (rowsL r n) := by
  refine ⟨rowsL_len r n, by omega, fun hp => ⟨_, rfl, fun j hj => ?_⟩⟩
  rw [rowsL_get r n j hj, ← hc j (by omega)]
  congr 1
  unfold Addr.add
  by_cases e : j = 0
  · subst e; simp
  · simp [e]
theorem empty_own (w : World) (k : Nat) (hk : k = w.heap.size) : (w.alloc (.cells #[] 45)).ownsRow w.heap.size 45 1 (.slice (some ⟨k, 0, none⟩) 0 0) ([] : List Int).length (nums .u64 []) := by
  subst hk
  exact ⟨rfl, Or.inr ⟨_, 0, #[], rfl, Nat.le_refl _, World.alloc_heap_new w _, Nat.le_refl _, by decide, rfl, rfl⟩⟩
theorem kd_of_own {w : World} {base n : Nat} {e : TypeId} {v : Value} {xs : List Int} (h : w.ownsRow base e 1 v n (nums .u64 xs)) : ∃ A c, v = .slice A n c ∧ n ≤ c ∧ Kd.C (Kd.int .u64) w A n xs := by
  obtain ⟨A, c, h1, h2, h3⟩ := own_reads_of_le (enc := fun x => Value.int .u64 x) (d := (0 : Int)) h
  exact ⟨A, c, h1, h2, Kd.C_of_reads h3⟩
set_option maxRecDepth 100000 in
set_option maxHeartbeats 1000000 in
theorem list_calls (C : Array Value) (r : Nat → Int) (n : Nat) (w : World) (hC : MV C r n) (h0 : 0 < n) (hn : n ≤ 16) : Calls Tryd.prog 122 #[.agg C] w fun e w' => (∃ A c, e = .returned (.slice A n c) ∧ n ≤ c ∧ Kd.C (Kd.int .u64) w' A n (rowsL r n)) ∧ Below w.heap.size w w' := by
  have HC := Aside0.mk hC
  clear hC
  have d : ((n : Int) == 0) = false := by simp; omega
  go_enter Tryd.func122, Tryd.ntmps122
  go_upto_region 1 with fail
  have HB : Aside0 (Below w.heap.size w (w.alloc (.cells C 163))) := ⟨(Below.refl _ w).alloc (Nat.le_refl _) _⟩
  have HE : Aside0 ((w.alloc (.cells C 163)).heap[w.heap.size]? = some (.cells C 163 (0, 0))) := ⟨World.alloc_heap_new w _⟩
  generalize w.alloc (.cells C 163) = w2 at HB HE ⊢
  have y64 := (mv_cell HC.out HE.out).2.1
  have hn0 : (0 : Int) ≤ (n : Int) := by omega
  have hn1 : (n : Int) ≤ 64 := by omega
  have hn2 : n ≤ 64 := by omega
  have y64' := World.new_ne w2 ⟨w.heap.size, 64, none⟩ y64
  have hlt : w.heap.size < w2.heap.size := (Array.getElem?_eq_some_iff.1 HE.out).1
  have hne : w.heap.size ≠ w2.heap.size := by omega
  have HW3 : Aside0 (Below w.heap.size w (w2.alloc (.cells #[] 45))) := ⟨HB.out.alloc (by omega) _⟩
  have HE3 : Aside0 ((w2.alloc (.cells #[] 45)).heap[w.heap.size]? = some (.cells C 163 (0, 0))) := ⟨(Below.heap_alloc _ _ _ hlt).trans HE.out⟩
  have HO : Aside0 ((w2.alloc (.cells #[] 45)).ownsRow w2.heap.size 45 1 (.slice (some ⟨w2.heap.size, 0, none⟩) 0 0) ([] : List Int).length (nums .u64 [])) := ⟨empty_own w2 _ rfl⟩
  have HRD : Aside0 (ReadsInt (w2.alloc (.cells #[] 45)) .u64 (some ⟨w.heap.size, 0, none⟩) n (rowsL r n)) := ⟨rows_reads (C := C) (mv_cell HC.out HE3.out).1 hn⟩
  have HSZ : Aside0 (w2.heap.size ≤ (w2.alloc (.cells #[] 45)).heap.size ∧ w.heap.size ≤ w2.heap.size) := ⟨by simp, by omega⟩
  have HNB : Aside0 ((([] : List Int).length + n) * 8 ≤ 140737488355328) := ⟨by simp; omega⟩
  go_upto_region 3 with fail
  go_wp2_with ((with_reducible refine gate_builtin (b := .append) rfl ?_); at_builtin; refine print_append_row (w0 := w2.alloc (.cells #[] 45)) w2.heap.size rfl (.tmp 6) (.tmp 10) 22 45 .u64 8 rfl Tryd.underlying22 (by kernel_rfl) (by decide) (.slice (some ⟨w2.heap.size, 0, none⟩) 0 0) [] (rowsL r n) (some ⟨w.heap.size, 0, none⟩) n 64 rfl rfl HO.out HRD.out (Below.refl _ _) HSZ.out.1 HNB.out ?_; intro v1 w4 hown hB2 hg2 hat; obtain ⟨A2, c2, rfl, hc2, hrd⟩ := kd_of_own hown; have HX := Aside0.mk (And.intro hB2 (And.intro hc2 hrd)); clear hown hB2 hg2 hat hc2 hrd)
  go_ret
  exact ⟨⟨A2, c2, by rw [rowsL_len]; rfl, by have := HX.out.2.1; rw [List.nil_append, rowsL_len] at this; exact this, by have := HX.out.2.2; rw [List.nil_append, rowsL_len] at this; exact this⟩, HW3.out.trans (HX.out.1.mono HSZ.out.2)⟩
theorem snd_cases (f : Nat → Int) : ∀ (d m : Nat), sndOf (scan f m d) = 0 ∨ ∃ j, m ≤ j ∧ j < m + d ∧ sndOf (scan f m d) = f j
  | 0, m => Or.inl rfl
  | d + 1, m => by
    unfold scan
    by_cases e : f m = 0
    · rw [if_pos e]
      rcases snd_cases f d (m + 1) with h | ⟨j, h1, h2, h3⟩
      · exact Or.inl h
      · exact Or.inr ⟨j, by omega, by omega, h3⟩
    · rw [if_neg e]
      exact Or.inr ⟨m, by omega, by omega, rfl⟩
theorem bad_long {l : List Int} (hu : ∀ x ∈ l, U64 x) (h16 : l.length ≤ 16) {i : Nat} (hi : i < l.length) : rowBad l i = rowLong l i := high_bits (rd_u64 hu hi) l.length (by omega)
theorem r01_ok {l : List Int} (hu : ∀ x ∈ l, U64 x) (h16 : l.length ≤ 16) (h : ∀ j, j < l.length → rowLong l j = false) : r01F l = 0 := by
  unfold r01F
  rw [if_neg (by omega)]
  exact snd_none (fun j hj => by rw [bad_long hu h16 hj, h j hj]; rfl)
theorem r01_bad {l : List Int} (hu : ∀ x ∈ l, U64 x) (h16 : l.length ≤ 16) (h : ∃ j, j < l.length ∧ rowLong l j = true) : r01F l = 10 := by
  obtain ⟨j, hj, hb⟩ := h
  unfold r01F
  rw [if_neg (by omega)]
  have hne : sndOf (scan (fun i => if rowBad l i = true then 10 else 0) 0 l.length) ≠ 0 := by
    intro h0
    have := scan_zero _ _ h0 j (Nat.zero_le _) (by omega)
    rw [bad_long hu h16 hj, hb] at this
    exact absurd this (by decide)
  rcases snd_cases (fun i => if rowBad l i = true then 10 else 0) l.length 0 with h | ⟨k, _, _, h3⟩
  · exact absurd h hne
  · rw [h3] at hne ⊢
    by_cases e : rowBad l k = true
    · exact if_pos e
    · exact absurd (if_neg e) hne
theorem of_tells (A : Option Addr) (c : Nat) (l : List Int) (w : World) (hr : Kd.C (Kd.int .u64) w A l.length l) (h16 : l.length ≤ 16) (hu : ∀ x ∈ l, U64 x) : Calls Tryd.prog 120 #[.slice A l.length c] w fun e w' =>
    (∃ C, ∃ r : Nat → Int, ∃ n : Int, e = .returned (.tuple #[.agg C, .int .i64 (r01F l)]) ∧ MV C r n ∧ (r01F l = 0 → MV C (fun i => rd l (i : Int)) l.length)) ∧ Below w.heap.size w w' := by
  refine (of_calls A c l w hr h16).mono ?_
  rintro e w' ⟨h | h, hb⟩
  · obtain ⟨C, rfl, hM, hA⟩ := h
    exact ⟨⟨C, _, _, by rw [r01_ok hu h16 hA], hM, fun _ => hM⟩, hb⟩
  · obtain ⟨C, rfl, hM, hA⟩ := h
    have e10 := r01_bad hu h16 hA
    exact ⟨⟨C, _, _, by rw [e10], hM, fun h0 => absurd (h0.symm.trans e10) (by decide)⟩, hb⟩
set_option maxRecDepth 100000 in
set_option maxHeartbeats 1000000 in
theorem bitsCheck_calls (A : Option Addr) (c : Nat) (l : List Int) (w : World) (hr : Kd.C (Kd.int .u64) w A l.length l) (h16 : l.length ≤ 16) (hu : ∀ x ∈ l, U64 x) : Calls Tryd.prog 119 #[.slice A l.length c] w fun e w' => e = .returned (.int .i64 (r01F l)) ∧ Below w.heap.size w w' := by
  have HI := Aside0.mk (of_tells A c l w hr h16 hu)
  clear hr hu
  generalize r01F l = q at HI ⊢
  go_enter Tryd.func119, Tryd.ntmps119
  go_wp2_with (first | (go_at_call 120; refine HI.out.mono ?_; rintro e wc ⟨⟨C, r, n, rfl, hM, -⟩, hb⟩; have N1 := Aside0.mk hb; have HM := Aside0.mk hM; clear hb hM) | ((with_reducible refine gate_store (t := 163) (p := 3) rfl ?_); refine store_blk rfl 163 (.tmp 3) (.tmp 8) rfl wc.heap.size 0 C Tryd.zeroCells163 163 rfl rfl (World.alloc_heap_new _ _) (by have h1 := (HM.out).1; have h2 := zero_mv.1; omega) (mv_info HM.out) (mv_one HM.out) ?_; intro w6 hw6 hh6; have HW6 := Aside0.mk hw6; clear hw6 hh6))
  go_ret
  exact ⟨rfl, by rw [HW6.out]; exact below_setCells (Nat.le_of_lt_succ (Nat.lt_succ_of_le N1.out.size)) _ _ _ (N1.out.alloc N1.out.size _)⟩
def shapeF (l : List Int) : Int := if l.length > 16 then 3 else if l.length = 0 then 1 else r01F l
set_option maxRecDepth 100000 in
set_option maxHeartbeats 1000000 in
theorem shape_calls (A : Option Addr) (c : Nat) (l : List Int) (w : World) (hr : Kd.C (Kd.int .u64) w A l.length l) (hu : ∀ x ∈ l, U64 x) : Calls Tryd.prog 115 #[.slice A l.length c] w fun e w' => e = .returned (.int .i64 (shapeF l)) ∧ Below w.heap.size w w' := by
  unfold shapeF
  by_cases h16 : l.length > 16
  · have d1 : decide ((l.length : Int) > 16) = true := decide_eq_true (by omega)
    have d1' : decide (16 < l.length) = true := decide_eq_true h16
    rw [if_pos h16]
    go_enter Tryd.func115, Tryd.ntmps115
    go_wp2_with fail
    go_ret
    exact ⟨rfl, Below.refl _ _⟩
  · have d1 : decide ((l.length : Int) > 16) = false := decide_eq_false (by omega)
    have d1' : decide (16 < l.length) = false := decide_eq_false h16
    rw [if_neg h16]
    by_cases h0 : l.length = 0
    · have d2 : ((l.length : Int) == 0) = true := by simpa using h0
      rw [if_pos h0]
      go_enter Tryd.func115, Tryd.ntmps115
      go_wp2_with fail
      go_ret
      exact ⟨rfl, Below.refl _ _⟩
    · have d2 : ((l.length : Int) == 0) = false := by simpa using h0
      rw [if_neg h0]
      have HI := Aside0.mk (bitsCheck_calls A c l w hr (by omega) hu)
      clear hr hu
      generalize r01F l = q at HI ⊢
      go_enter Tryd.func115, Tryd.ntmps115
      go_wp2_with (go_at_call 119; refine HI.out.mono ?_; rintro e wc ⟨rfl, hb⟩; have N1 := Aside0.mk hb; clear hb)
      go_ret
      exact ⟨rfl, N1.out⟩
set_option maxRecDepth 100000 in
set_option maxHeartbeats 1000000 in
theorem closure_calls (A : Option Addr) (c : Nat) (l : List Int) (w : World) (hr : Kd.C (Kd.int .u64) w A l.length l) (h16 : l.length ≤ 16) (h0 : 0 < l.length) (hu : ∀ x ∈ l, U64 x) (hz : r01F l = 0) : Calls Tryd.prog 116 #[.slice A l.length c] w fun e w' => (∃ A' c', e = .returned (.tuple #[.slice A' l.length c', .int .i64 0]) ∧ l.length ≤ c' ∧ Kd.C (Kd.int .u64) w' A' l.length (rowsL (closF (fun i => rd l (i : Int)) l.length) l.length)) ∧ Below w.heap.size w w' := by
  have HI := Aside0.mk (of_tells A c l w hr h16 hu)
  clear hr hu
  rw [hz] at HI
  go_enter Tryd.func116, Tryd.ntmps116
  go_upto_region 4 with (first | (go_at_call 120; refine HI.out.mono ?_; rintro e wc ⟨⟨C, r, n, rfl, -, hM'⟩, hb⟩; have hM := hM' rfl; have N1 := Aside0.mk hb; have HM := Aside0.mk hM; clear hb hM hM') | ((with_reducible refine gate_store (t := 163) (p := 4) rfl ?_); refine store_blk rfl 163 (.tmp 4) (.tmp 9) rfl wc.heap.size 0 C Tryd.zeroCells163 163 rfl rfl (World.alloc_heap_new _ _) (by have h1 := (HM.out).1; have h2 := zero_mv.1; omega) (mv_info HM.out) (mv_one HM.out) ?_; intro w6 hw6 hh6; rw [setAll_all Tryd.zeroCells163 C (by have h1 := (HM.out).1; have h2 := zero_mv.1; omega)] at hh6; have HW6 := Aside0.mk (And.intro hw6 hh6); clear hw6 hh6))
  have HB6 : Aside0 (Below w.heap.size w w6) := ⟨by rw [HW6.out.1]; exact below_setCells N1.out.size _ _ _ (N1.out.alloc N1.out.size _)⟩
  go_wp2_with (first | ((with_reducible refine gate_ (.load 163 (.tmp 4)) rfl ?_); refine load_blk rfl 163 (.tmp 4) rfl wc.heap.size C 163 rfl _ HW6.out.2 Tryd.underlying163 rfl (mv_info HM.out) ?_) | (go_at_call 121; refine (closed_calls C _ _ _ HM.out h16).mono ?_; rintro e w7 ⟨⟨D, rfl, hD⟩, hb⟩; have HD := Aside0.mk hD; have N7 := Aside0.mk hb; clear hD hb) | (go_at_call 122; refine (list_calls D _ _ _ HD.out h0 h16).mono ?_; rintro e w8 ⟨⟨A8, c8, rfl, hc8, hK8⟩, hb⟩; have H8 := Aside0.mk (And.intro hc8 hK8); have N8 := Aside0.mk hb; clear hc8 hK8 hb))
  go_ret2
  exact ⟨⟨A8, c8, rfl, H8.out.1, H8.out.2⟩, HB6.out.trans ((N7.out.trans (N8.out.mono N7.out.size)).mono HB6.out.size)⟩
end Go.Proofs.YtoliipbmcekciaaDoor.QDd

