/- Texts of this claim, joined: XCDe, T2De, XDDe, Dcx1. -/
import Derived.Test.YtoliipbmcekciaaDoorZ01
import Derived.Test.YtoliipbmcekciaaDoorZ05
import Derived.Test.YtoliipbmcekciaaDoorZ10
namespace Go.Proofs.YtoliipbmcekciaaDoor.QDd
open Go.RowKit Go.Shelf Go.Proofs.YtoliipbmcekciaaDoorW.PrintWords Go.Proofs.YtoliipbmcekciaaDoorW.PrintLast Go.Proofs.YtoliipbmcekciaaDoorW.PrintMore
open Go.Proofs.YtoliipbmcekciaaDoor.QDc (tk putL putN obj_below take_at yields_blk load_blk load_any store_blk blk_setCells setAll far_setCells below_setCells)
set_option linter.unusedVariables false
set_option linter.unusedSimpArgs false
attribute [local go_sem] Oper.semAt_some
set_option maxRecDepth 100000 in
set_option maxHeartbeats 2000000 in
theorem miss_stop (A : Option Addr) (c : Nat) (l : List Int) (w : World) (hr : Kd.C (Kd.int .u64) w A l.length l) (hu : ∀ x ∈ l, U64 x) (hz : shapeF l ≠ 0) : Calls Tryd.prog 108 #[.slice A l.length c] w fun e w2 => (∃ A2 k c2, e = .returned (.tuple #[.slice A2 k c2, .int .i64 (shapeF l)])) ∧ Below w.heap.size w w2 := by
  have HB0 : Aside0 (Below w.heap.size w (w.alloc (.cells #[.slice A l.length c] 22))) := ⟨(Below.refl _ w).alloc (Nat.le_refl _) _⟩
  have HS := Aside0.mk (shape_calls A c l _ (Kd.C_below hr HB0.out) hu)
  clear hr hu
  generalize shapeF l = s at HS hz ⊢
  have d : (s != 0) = true := by simpa using hz
  have d' : decide (s = 0) = false := decide_eq_false hz
  go_enter Tryd.func108, Tryd.ntmps108
  go_upto_region 1 with fail
  have x1 : (w.alloc (.cells #[.slice A l.length c] 22)).heap[w.heap.size]? = some (.cells #[.slice A l.length c] 22 (0, 0)) := World.alloc_heap_new _ _
  have x0 : (w.alloc (.cells #[.slice A l.length c] 22)).cell? ⟨w.heap.size, 0, none⟩ = some (.slice A l.length c) := by simp only [World.cell?, x1]; rfl
  clear x1
  generalize w.alloc (.cells #[.slice A l.length c] 22) = w2 at HB0 HS x0 ⊢
  go_wp2_with (go_at_call 115; refine HS.out.mono ?_; rintro e w3 ⟨rfl, hb⟩; have N1 := Aside0.mk hb; clear hb)
  go_ret2
  exact ⟨⟨_, _, _, rfl⟩, HB0.out.trans (N1.out.mono HB0.out.size)⟩
theorem info160 : (Tryd.prog.info? 160).map (fun i => (i.zero, i.size, i.bytes)) = some (some (.agg #[.int .i64 0, .int .i64 0]), 2, 16) := by kernel_rfl
def misL (l : List Int) (a : Fin l.length) : List Int := bl (misA l a.val) 64
def misC (l : List Int) (a : Fin l.length) : List Value := (misL l a).flatMap (fun b => [Value.int .i64 ((a.val : Nat) : Int), Value.int .i64 b])
theorem bl_any {s : Int} (hs : U64 s) : decide (0 < (bl s 64).length) = (s != 0) := by
  have h := high_bits hs 0 (by decide)
  rw [show (2 : Int) ^ 0 = 1 from rfl, Int.ediv_one] at h
  rw [← h, Bool.eq_iff_iff, decide_eq_true_eq, List.any_eq_true]
  constructor
  · intro hp
    obtain ⟨x, hx⟩ := List.exists_mem_of_length_pos hp
    obtain ⟨i, _, rfl, _⟩ := (bl_mem _ _ _).1 hx
    exact ⟨_, hx, decide_eq_true (by omega)⟩
  · rintro ⟨x, hx, _⟩
    exact List.length_pos_of_mem hx
theorem misA_u {l : List Int} (hu : ∀ x ∈ l, U64 x) (h16 : l.length ≤ 16) (a : Nat) : U64 (misA l a) := by
  have hr := rows_u hu
  obtain ⟨h1, _⟩ := refl_u hr l.length (by omega)
  obtain ⟨x, hx, _⟩ := ((out_u h1 l.length l.length).1 a).nat
  obtain ⟨y, hy, _⟩ := (hr a).nat
  unfold misA closF
  show U64 (IntKind.u64.wrap _)
  rw [IntKind.wrap_u64]
  exact ⟨by omega, by omega⟩
theorem mis_count {l : List Int} (hu : ∀ x ∈ l, U64 x) (h16 : l.length ≤ 16) : decide (0 < ((upF l.length).flatMap (misL l)).length) = misAny l := by
  rw [Bool.eq_iff_iff, decide_eq_true_eq]
  unfold misAny
  rw [List.any_eq_true]
  constructor
  · intro hp
    obtain ⟨x, hx⟩ := List.exists_mem_of_length_pos hp
    obtain ⟨a, ha, hxa⟩ := List.mem_flatMap.1 hx
    refine ⟨a.val, List.mem_range.2 a.isLt, ?_⟩
    rw [← bl_any (misA_u hu h16 a.val)]
    exact decide_eq_true (List.length_pos_of_mem hxa)
  · rintro ⟨i, hi, hm⟩
    rw [← bl_any (misA_u hu h16 i)] at hm
    obtain ⟨x, hx⟩ := List.exists_mem_of_length_pos (of_decide_eq_true hm)
    exact List.length_pos_of_mem (List.mem_flatMap.2 ⟨⟨i, List.mem_range.1 hi⟩, by unfold upF; exact List.mem_finRange _, hx⟩)
theorem cells_nw (W : World) (cs : Array Value) (t : TypeId) (j : Nat) (u : Value) (h : cs.toList[j]? = some u) : (W.alloc (.cells cs t)).cell? (Addr.add ⟨W.heap.size, 0, none⟩ j) = some u := by
  have e : cs[j]? = some u := by rw [← Array.getElem?_toList]; exact h
  have e2 : (Addr.add ⟨W.heap.size, 0, none⟩ j) = ⟨W.heap.size, j, none⟩ := by rw [Addr.add_mid, Nat.zero_add]
  rw [e2]
  simp only [World.cell?]
  rw [World.alloc_heap_new]
  simpa using e
abbrev flo (x b : Int) : List Value := [Value.int .i64 x, Value.int .i64 b]
structure MI (n1 : Nat) (W3 : World) (pc : List Value) (k0 : Nat) (x : Int) (ms : List Int) (j : Nat) (wr : World) : Prop where
  le : j ≤ ms.length
  ko : KeepsOthers W3 wr
  kg : KpG 146 160 n1 W3 wr
  ex : ∃ v, Boxed wr n1 146 v ∧ wr.ownsRow n1 160 2 v (k0 + j) (pc ++ (ms.take j).flatMap (flo x))
theorem misL_most (l : List Int) : ∀ pre : List (Fin l.length), (pre.flatMap (misL l)).length ≤ 64 * pre.length
  | [] => by simp
  | a :: pre => by
    rw [List.flatMap_cons, List.length_append, List.length_cons]
    have h1 := misL_most l pre
    have h2 : (misL l a).length ≤ 64 := bl_len _ 64
    omega
theorem list_at {n0 : Nat} {W3 wr : World} {A : Option Addr} {c : Nat} {ms : List Int} {nb : Nat} (ho : W3.ownsRow nb 3 1 (.slice A ms.length c) ms.length (ms.map (Value.int .i64))) (hk : KpG 146 160 n0 W3 wr) (j : Nat) (hj : j < ms.length) :
    ∃ ad, A = some ad ∧ wr.cell? (ad.add j) = some (.int .i64 (rd ms (j : Int))) := by
  have h1 : wr.ownsRow nb 3 1 (.slice A ms.length c) ms.length (ms.map (Value.int .i64)) := own_move ho (fun k hk' => by
    obtain ⟨cells, hc⟩ := own_typed ho k hk'
    rw [hk.2 k cells 3 (by decide) (by decide) hc, hc])
  obtain ⟨A', c', e, _, h3⟩ := own_reads_of_le (enc := fun x => Value.int .i64 x) (d := (0 : Int)) h1
  injection e with e1 e2 e3
  subst e1 e3
  obtain ⟨ad, e4, h5⟩ := Kd.at_int (Kd.C_of_reads h3 : Kd.C (Kd.int .i64) wr A ms.length ms) (j : Int) (by omega) (by omega)
  rw [Int.toNat_natCast] at h5
  exact ⟨ad, e4, h5⟩
set_option maxRecDepth 100000 in
set_option maxHeartbeats 2000000 in
theorem miss_go (A : Option Addr) (c : Nat) (l : List Int) (w : World) (hr : Kd.C (Kd.int .u64) w A l.length l) (hu : ∀ x ∈ l, U64 x) (hz : shapeF l = 0) (h16 : l.length ≤ 16) (h0 : 0 < l.length) (h01 : r01F l = 0) : Calls Tryd.prog 108 #[.slice A l.length c] w fun e w2 => (∃ A2 k c2, e = .returned (.tuple #[.slice A2 k c2, .int .i64 0]) ∧ decide (0 < k) = misAny l) ∧ Below w.heap.size w w2 := by
  have HR := Aside0.mk hr
  have HU := Aside0.mk hu
  have HZ := Aside0.mk hz
  clear hr hu hz
  refine (callsIn_wide (n := 3)).1 ?_
  refine callsIn_of_wp_marks Tryd.func108 rfl trivial ?_ rfl
  simp only [Tryd.ntmps108, List.size_toArray, List.length_cons, List.length_nil, Nat.reduceAdd, Nat.reduceSub, Array.replicate_succ, Array.replicate_zero, List.push_toArray, List.append_toArray, List.nil_append, List.cons_append]
  gi_wp2
  have HB0 : Aside0 (Below w.heap.size w (w.alloc (.cells #[.slice A l.length c] 22))) := ⟨(Below.refl _ w).alloc (Nat.le_refl _) _⟩
  have x1 : (w.alloc (.cells #[.slice A l.length c] 22)).heap[w.heap.size]? = some (.cells #[.slice A l.length c] 22 (0, 0)) := World.alloc_heap_new _ _
  generalize w.alloc (.cells #[.slice A l.length c] 22) = w2 at HB0 x1 ⊢
  refine ⟨trivial, (callsIn_wide.2 (shape_calls A c l w2 (Kd.C_below HR.out HB0.out) HU.out)).mono ?_⟩
  rintro e w3 ⟨rfl, hb3⟩
  rw [HZ.out]
  have HB3 := Aside0.mk (HB0.out.trans (hb3.mono HB0.out.size))
  have x1 := obj_below hb3 x1
  clear hb3
  have xc1 : w3.cell? ⟨w.heap.size, 0, none⟩ = some (.slice A l.length c) := by simp [World.cell?, x1]
  gi_wp2
  refine ⟨trivial, (callsIn_wide.2 (closure_calls A c l w3 (Kd.C_below HR.out HB3.out) h16 h0 HU.out h01)).mono ?_⟩
  rintro e w4 ⟨⟨A', c', rfl, hc', hK⟩, hb4⟩
  have HB4 := Aside0.mk (HB3.out.trans (hb4.mono HB3.out.size))
  have x1 := obj_below hb4 x1
  have HK := Aside0.mk (And.intro hc' hK)
  clear hb4 hc' hK xc1
  have xc1 : w4.cell? ⟨w.heap.size, 0, none⟩ = some (.slice A l.length c) := by simp [World.cell?, x1]
  have hw4 : w.heap.size < w4.heap.size := (Array.getElem?_eq_some_iff.1 x1).1
  gi_wp2
  refine ⟨trivial, (callsIn_wide.2 (labels_calls A l.length c _)).mono ?_⟩
  rintro e w5 ⟨rfl, rfl⟩
  have e3 : ((((w4.alloc (.cells #[.slice A' l.length c'] 22)).alloc (.cells #[.slice none 0 0] 146)).alloc (.cells #[.slice A l.length c] 157))).heap[w4.heap.size + 2]? = some (.cells #[.slice A l.length c] 157 (0, 0)) := by have := World.alloc_heap_new ((w4.alloc (.cells #[.slice A' l.length c'] 22)).alloc (.cells #[.slice none 0 0] 146)) (.cells #[.slice A l.length c] 157); rwa [World.size_alloc, World.size_alloc] at this
  have e2 : Boxed ((((w4.alloc (.cells #[.slice A' l.length c'] 22)).alloc (.cells #[.slice none 0 0] 146)).alloc (.cells #[.slice A l.length c] 157))) (w4.heap.size + 1) 146 (.slice none 0 0) := by have := (Boxed.new (w4.alloc (.cells #[.slice A' l.length c'] 22)) 146 (.slice none 0 0)).alloc (.cells #[.slice A l.length c] 157); rwa [World.size_alloc] at this
  have e1 : ((((w4.alloc (.cells #[.slice A' l.length c'] 22)).alloc (.cells #[.slice none 0 0] 146)).alloc (.cells #[.slice A l.length c] 157))).heap[w4.heap.size]? = some (.cells #[.slice A' l.length c'] 22 (0, 0)) := (Below.heap_alloc _ _ _ (by simp; omega)).trans ((Below.heap_alloc _ _ _ (by simp)).trans (World.alloc_heap_new _ _))
  have e5 : Below w4.heap.size w4 ((((w4.alloc (.cells #[.slice A' l.length c'] 22)).alloc (.cells #[.slice none 0 0] 146)).alloc (.cells #[.slice A l.length c] 157))) := (((Below.refl _ w4).alloc (Nat.le_refl _) _).alloc (by simp) _).alloc (by simp; omega) _
  have e6 : ((((w4.alloc (.cells #[.slice A' l.length c'] 22)).alloc (.cells #[.slice none 0 0] 146)).alloc (.cells #[.slice A l.length c] 157))).heap.size = w4.heap.size + 3 := by simp
  gi_wp2
  simp only [World.size_alloc, Nat.add_assoc, Nat.reduceAdd]
  generalize ((((w4.alloc (.cells #[.slice A' l.length c'] 22)).alloc (.cells #[.slice none 0 0] 146)).alloc (.cells #[.slice A l.length c] 157))) = W0 at e1 e2 e3 e5 e6 ⊢
  obtain ⟨i0, hi, hz0, hz1, hz2⟩ := info_parts info160
  have hWs : w.heap.size ≤ w4.heap.size := HB4.out.size
  refine wpIn_rangeFunc_ownG (F := Fence.wide) (n := 3) (by rfl) (by decide) (gf := 123) (lb := #[.pointer (some ⟨w4.heap.size + 2, 0, none⟩)]) (by rfl) (by trivial) (enters_of Tryd.func123 (by kernel_rfl) rfl)
    (lab_seq 1 (w4.heap.size + 2) A l.length c (Below (w4.heap.size + 1)) W0 (by simp [World.cell?, e3]) (by omega)) belowK_t (belowK_b (by omega)) (Below.refl _ _) (fun _ => rfl)
    (fun (pre : List (Fin l.length)) W => (∃ v, Boxed W (w4.heap.size + 1) 146 v ∧ W.ownsRow (w4.heap.size + 1) 160 2 v (pre.flatMap (misL l)).length (pre.flatMap (misC l)) ∧ True) ∧ Below (w4.heap.size + 1) W0 W)
    (fun _ _ _ => False)
    (OwnFrom.and (Own.from (holdsRow_own (w4.heap.size + 1) (w4.heap.size + 1) 146 160 2 (fun pre : List (Fin l.length) => (pre.flatMap (misL l)).length) (fun pre : List (Fin l.length) => pre.flatMap (misC l)) (fun (_ : List (Fin l.length)) _ => True)) _) (ownFrom_below (by omega) (by omega)))
    (fun _ _ _ _ _ hs _ _ => hs)
    ⟨⟨_, e2, World.ownsRow_nil _ _ _ _, trivial⟩, Below.refl _ _⟩
    (fun (x : Fin l.length) => { tmps := #[Value.slice A l.length c, Value.pointer (some { block := w.heap.size, off := 0 }), Value.slice none 0 0,
          Value.int IntKind.i64 0, Value.int IntKind.i64 0, Value.pointer (some { block := w4.heap.size, off := 0 }),
          Value.int IntKind.i64 0, Value.pointer (some { block := w4.heap.size + 1, off := 0 }), .int .i64 ((x.val : Nat) : Int), undef, undef,
          Value.slice A l.length c, Value.int IntKind.i64 0, Value.int IntKind.i64 0, Value.bool false, undef,
          Value.tuple #[Value.slice A' l.length c', Value.int IntKind.i64 0], Value.slice A l.length c,
          Value.tuple #[Value.slice A' l.length c', Value.int IntKind.i64 0], Value.slice A' l.length c',
          Value.int IntKind.i64 0, Value.int IntKind.i64 0, Value.bool false, undef, Value.slice A l.length c,
          Value.func (Fn.func 123) #[] #[Value.pointer (some { block := w4.heap.size + 2, off := 0 })], .int .i64 ((x.val : Nat) : Int), undef,
          undef, undef, undef, undef, undef, undef, undef, undef, undef, undef, undef, undef, undef, undef, undef,
          undef, undef, undef, undef, undef, undef, undef], defers := [] }) ?assign ?body ?done ?stop
  case assign =>
    intro l x W K hK
    gi_wp2
    exact hK
  case body =>
    rintro lp pre x W ⟨⟨v, hv, hrow, _⟩, hB⟩ hlt
    have hb4 : Below w4.heap.size w4 W := e5.trans (hB.mono (by omega))
    have y1 : W.cell? ⟨w.heap.size, 0, none⟩ = some (.slice A l.length c) := pw_cell_below hb4 xc1
    have y5 : W.cell? ⟨w4.heap.size, 0, none⟩ = some (.slice A' l.length c') := by simp [World.cell?, (hB.block w4.heap.size (by omega)).trans e1]
    obtain ⟨ad, eA, q0⟩ := Kd.at_int (Kd.C_below (Kd.C_below HR.out HB4.out) hb4) ((x.val : Nat) : Int) (by omega) (by have := x.isLt; omega)
    obtain ⟨ad', eA', q1⟩ := Kd.at_int (Kd.C_below HK.out.2 hb4) ((x.val : Nat) : Int) (by omega) (by have := x.isLt; omega)
    subst eA
    subst eA'
    rw [Int.toNat_natCast] at q0 q1
    have hx0 : (0 : Int) ≤ ((x.val : Nat) : Int) := by omega
    have hx1 : ((x.val : Nat) : Int) < (l.length : Int) := by have := x.isLt; omega
    have hmx : Tryd.prog.follows .mixedOrders = true := by kernel_rfl
    have eR : rd (rowsL (closF (fun i => rd l (i : Int)) l.length) l.length) ((x.val : Nat) : Int) = closF (fun i => rd l (i : Int)) l.length x.val := by
      unfold rd rowsL
      rw [Int.toNat_natCast, List.getD_eq_getElem?_getD, List.getElem?_map, List.getElem?_range x.isLt]
      rfl
    rw [eR] at q1
    clear eR
    obtain ⟨qa, hqa⟩ : ∃ q, closF (fun i => rd l (i : Int)) l.length x.val = q := ⟨_, rfl⟩
    obtain ⟨qb, hqb⟩ : ∃ q, rd l ((x.val : Nat) : Int) = q := ⟨_, rfl⟩
    rw [hqa] at q1
    rw [hqb] at q0
    have HMA : Aside0 (misA l x.val = bits .andNot .u64 qa qb) := ⟨by rw [← hqa, ← hqb]; rfl⟩
    have HV := Aside0.mk (And.intro hv (And.intro hrow hB))
    have HI := Aside0.mk (And.intro hi (And.intro hz0 (And.intro hz1 hz2)))
    have HE := Aside0.mk (And.intro e5 (And.intro e6 (And.intro hWs h16)))
    have HLT := Aside0.mk hlt
    clear hqa hqb hv hrow hB hi hz0 hz1 hz2 e5 e6 hWs hlt e1 e2 e3 x1 xc1 hb4 HB0 HB3 hw4 h16 h0 h01
    obtain ⟨xv, hxv⟩ : ∃ q, ((x.val : Nat) : Int) = q := ⟨_, rfl⟩
    have HXV := Aside0.mk hxv
    rw [hxv] at hx0 hx1 ⊢
    have hxn : x.val = xv.toNat := by omega
    rw [hxn] at q0 q1
    clear hxv hxn
    gi_wp2
    refine region_roundS (l := lp) (fun w' => Below W.heap.size W w') (by rfl) hmx (by kernel_rfl) ?_
    have hHeld : Below W.heap.size W W.drew := Go.Proofs.YtoliipbmcekciaaDoorW.PrintWords.below_drew (Below.refl _ _)
    generalize W.drew = W1 at hHeld ⊢
    refine takeS (i := 0) (v := _) 27 (by rfl) rfl rfl (by kernel_rfl) (by kernel_rfl) (by kernel_rfl) (fun _ _ _ h => h) (fun _ => rfl) (Or.inl ⟨by rfl, fun w' hW => by have p1 := pw_cell_below hW y1; have p5 := pw_cell_below hW y5; have p0 := pw_cell_below hW q0; have p2 := pw_cell_below hW q1; go_simp; try (first | with_reducible rfl | rfl)⟩) hHeld ?_
    try simp only [putL, putN, List.set]
    refine takeS (i := 1) (v := _) 28 (by rfl) rfl rfl (by kernel_rfl) (by kernel_rfl) (by kernel_rfl) (fun _ _ _ h => h) (fun _ => rfl) (Or.inl ⟨by rfl, fun w' hW => by have p1 := pw_cell_below hW y1; have p5 := pw_cell_below hW y5; have p0 := pw_cell_below hW q0; have p2 := pw_cell_below hW q1; go_simp; try (first | with_reducible rfl | rfl)⟩) hHeld ?_
    try simp only [putL, putN, List.set]
    refine takeS (i := 4) (v := _) 31 (by rfl) rfl rfl (by kernel_rfl) (by kernel_rfl) (by kernel_rfl) (fun _ _ _ h => h) (fun _ => rfl) (Or.inl ⟨by rfl, fun w' hW => by have p1 := pw_cell_below hW y1; have p5 := pw_cell_below hW y5; have p0 := pw_cell_below hW q0; have p2 := pw_cell_below hW q1; go_simp; try (first | with_reducible rfl | rfl)⟩) hHeld ?_
    try simp only [putL, putN, List.set]
    refine takeS (i := 5) (v := _) 32 (by rfl) rfl rfl (by kernel_rfl) (by kernel_rfl) (by kernel_rfl) (fun _ _ _ h => h) (fun _ => rfl) (Or.inl ⟨by rfl, fun w' hW => by have p1 := pw_cell_below hW y1; have p5 := pw_cell_below hW y5; have p0 := pw_cell_below hW q0; have p2 := pw_cell_below hW q1; go_simp; try (first | with_reducible rfl | rfl)⟩) hHeld ?_
    try simp only [putL, putN, List.set]
    refine takeS (i := 11) (v := _) 38 (by rfl) rfl rfl (by kernel_rfl) (by kernel_rfl) (by kernel_rfl) (fun _ _ _ h => h) (fun _ => rfl) (Or.inl ⟨by rfl, fun w' hW => by have p1 := pw_cell_below hW y1; have p5 := pw_cell_below hW y5; have p0 := pw_cell_below hW q0; have p2 := pw_cell_below hW q1; go_simp; try (first | with_reducible rfl | rfl)⟩) hHeld ?_
    try simp only [putL, putN, List.set]
    refine takeS (i := 2) (v := _) 29 (by rfl) rfl rfl (by kernel_rfl) (by kernel_rfl) (by kernel_rfl) (fun _ _ _ h => h) (fun _ => rfl) (Or.inl ⟨by rfl, fun w' hW => by have p1 := pw_cell_below hW y1; have p5 := pw_cell_below hW y5; have p0 := pw_cell_below hW q0; have p2 := pw_cell_below hW q1; go_simp; try (first | with_reducible rfl | rfl)⟩) hHeld ?_
    try simp only [putL, putN, List.set]
    refine takeS (i := 6) (v := _) 33 (by rfl) rfl rfl (by kernel_rfl) (by kernel_rfl) (by kernel_rfl) (fun _ _ _ h => h) (fun _ => rfl) (Or.inl ⟨by rfl, fun w' hW => by have p1 := pw_cell_below hW y1; have p5 := pw_cell_below hW y5; have p0 := pw_cell_below hW q0; have p2 := pw_cell_below hW q1; go_simp; try (first | with_reducible rfl | rfl)⟩) hHeld ?_
    try simp only [putL, putN, List.set]
    refine takeS (i := 3) (v := _) 30 (by rfl) rfl rfl (by kernel_rfl) (by kernel_rfl) (by kernel_rfl) (fun _ _ _ h => h) (fun _ => rfl) (Or.inl ⟨by rfl, fun w' hW => by have p1 := pw_cell_below hW y1; have p5 := pw_cell_below hW y5; have p0 := pw_cell_below hW q0; have p2 := pw_cell_below hW q1; go_simp; try (first | with_reducible rfl | rfl)⟩) hHeld ?_
    try simp only [putL, putN, List.set]
    refine takeS (i := 7) (v := _) 34 (by rfl) rfl rfl (by kernel_rfl) (by kernel_rfl) (by kernel_rfl) (fun _ _ _ h => h) (fun _ => rfl) (Or.inl ⟨by rfl, fun w' hW => by have p1 := pw_cell_below hW y1; have p5 := pw_cell_below hW y5; have p0 := pw_cell_below hW q0; have p2 := pw_cell_below hW q1; go_simp; try (first | with_reducible rfl | rfl)⟩) hHeld ?_
    try simp only [putL, putN, List.set]
    refine takeS (i := 8) (v := _) 35 (by rfl) rfl rfl (by kernel_rfl) (by kernel_rfl) (by kernel_rfl) (fun _ _ _ h => h) (fun _ => rfl) (Or.inl ⟨by rfl, fun w' hW => by have p1 := pw_cell_below hW y1; have p5 := pw_cell_below hW y5; have p0 := pw_cell_below hW q0; have p2 := pw_cell_below hW q1; go_simp; try (first | with_reducible rfl | rfl)⟩) hHeld ?_
    try simp only [putL, putN, List.set]
    refine oneS (i := 9) (by kernel_rfl) rfl (fun K hK => ?_)
    go_simp
    refine ⟨trivial, (callsIn_wide.2 (bitsList_calls _ _)).mono ?_⟩
    rintro e W3 ⟨v3, rfl, hown3, hb3⟩
    obtain ⟨A3, c3, rfl, hc3, hrd3⟩ := own_reads_of_le (enc := fun x => Value.int .i64 x) (d := (0 : Int)) hown3
    have hms : misL l x = bl (bits .andNot .u64 qa qb) 64 := by unfold misL; rw [HMA.out]
    rw [← hms] at hown3 hc3 hrd3 ⊢
    dsimp only
    refine hK _ _ (hHeld.trans (hb3.mono hHeld.size)) ?_
    clear hK K
    have hH3 : Below W.heap.size W W3 := hHeld.trans (hb3.mono hHeld.size)
    try simp only [putL, putN, List.set]
    have HMC : Aside0 (misC l x = (misL l x).flatMap (flo xv)) := ⟨by unfold misC; rw [HXV.out]⟩
    have HML : Aside0 ((misL l x).length ≤ 64) := ⟨bl_len _ 64⟩
    clear hms HMA hrd3
    refine takeS (i := 10) (v := _) 37 (by rfl) rfl rfl (by kernel_rfl) (by kernel_rfl) (by kernel_rfl) (fun _ _ _ h => h) (fun _ => rfl) (Or.inl ⟨by rfl, fun w' hW => by go_simp; try (first | with_reducible rfl | rfl)⟩) hH3 ?_
    try simp only [putL, putN, List.set]
    refine doneS (by kernel_rfl) ?_ _
    have HPL : Aside0 ((pre.flatMap (misL l)).length ≤ 1024) := ⟨by have := misL_most l pre; have h2 := HLT.out; have h3 := HE.out; unfold upF at h2; rw [List.length_finRange] at h2; omega⟩
    obtain ⟨k0, hk0⟩ : ∃ q, (pre.flatMap (misL l)).length = q := ⟨_, rfl⟩
    rw [hk0] at HPL HV
    have HK0 := Aside0.mk hk0
    clear hk0
    obtain ⟨ms, hmsE⟩ : ∃ q, misL l x = q := ⟨_, rfl⟩
    have HMS := Aside0.mk hmsE
    rw [hmsE] at hown3 hc3 ⊢
    have HOWN := Aside0.mk hown3
    have HML2 : Aside0 (ms.length ≤ 64) := ⟨by rw [← hmsE]; exact HML.out⟩
    clear hmsE hown3 hc3
    have hBW : Below (w4.heap.size + 1) W0 W := HV.out.2.2
    have hn1 : w4.heap.size + 1 ≤ W.heap.size := by have h3 := HE.out.2.1; have := hBW.size; omega
    have HS0 : Aside0 (MI (w4.heap.size + 1) W3 (pre.flatMap (misC l)) k0 xv ms 0 W3) := ⟨⟨Nat.zero_le _, KeepsOthers.refl _, ⟨Below.refl _ _, fun k cs t _ _ h => h⟩, v, (by
        have := HV.out.1; exact (hH3.block _ this.lt).trans this), (by
        have h1 := own_move HV.out.2.1 (fun k hk => hH3.block k (own_lt HV.out.2.1 k hk))
        simpa using h1)⟩⟩
    clear hb3
    have HN1 := Aside0.mk hn1
    have HH3 := Aside0.mk hH3
    have HHE := Aside0.mk hHeld
    clear hn1 hH3 hHeld hBW y1 y5 q0 q1 hx0 hx1 hmx
    gi_wp2
    gi_loopw [38] (fun i wr => ∃ j : Nat, i = .int .i64 (j : Int) ∧ Aside0 (MI (w4.heap.size + 1) W3 (pre.flatMap (misC l)) k0 xv ms j wr)) (fun i _ => ms.length - (intOf i).toNat)
    case atStart => exact ⟨0, rfl, HS0⟩
    case round =>
      clear HS0
      obtain ⟨j, rfl, hS⟩ := hrel
      by_cases h1 : j < ms.length
      · have d1 : decide ((j : Int) < (ms.length : Int)) = true := decide_eq_true (by omega)
        have hx0 : (0 : Int) ≤ (j : Int) := by omega
        have hx1 : (j : Int) < (ms.length : Int) := by omega
        obtain ⟨ad3, eA3, qj⟩ := list_at HOWN.out hS.out.kg j h1
        subst eA3
        obtain ⟨vo, bvo, hoo⟩ := hS.out.ex
        have hc := bvo.cell
        have hf := bvo.frozen
        have HIN := Aside0.mk (And.intro hoo bvo)
        have hns : w4.heap.size + 1 ≤ wr.heap.size := Nat.le_of_lt bvo.lt
        have HPL' := HPL.out
        have HML' := HML2.out
        clear hoo bvo
        have HTK : Aside0 ((ms.take (j + 1)).flatMap (flo xv) = (ms.take j).flatMap (flo xv) ++ flo xv (rd ms (j : Int))) := ⟨by
          rw [List.take_succ_eq_append_getElem h1, List.flatMap_append]
          congr 1
          rw [List.flatMap_cons, List.flatMap_nil, List.append_nil]
          congr 1
          unfold rd
          rw [Int.toNat_natCast, List.getD_eq_getElem?_getD, List.getElem?_eq_getElem h1]
          rfl⟩
        have hw : wrap64 ((j : Int) + 1) = (j : Int) + 1 := by unfold wrap64; omega
        have H1 := Aside0.mk h1
        generalize rd ms (j : Int) = xb at qj HTK ⊢
        gi_wp2_with (gi_at_builtin; go_loud (refine wpListIn_append_own _ rfl _ _ 146 rfl (w4.heap.size + 1) 160 i0 _ 2 16 Tryd.underlying146 HI.out.1 HI.out.2.1 HI.out.2.2.1 HI.out.2.2.2 rfl (by decide) _ _ _ rfl (HIN.out.1.alloc _) _ 1 1 (flo xv xb) rfl rfl (cells_nw _ _ _) (by intro u hu; simp only [List.mem_cons, List.not_mem_nil, or_false] at hu; rcases hu with rfl | rfl <;> rfl) (by unfold maxLen; omega) (by omega) (by simp; omega) ?_); intro v' w1 hown' hgrow _; obtain ⟨g', cap', rfl⟩ := ownsRow_succ hown'; obtain ⟨hv1, hv2, hr2, hk2, hb2⟩ := HIN.out.2.appended (by decide) HIN.out.1 hns (Nat.le_refl _) hown' hgrow; have hkp := KpG_app HIN.out.1 HIN.out.2 (Nat.le_refl _) hown' hgrow; have hc1 := hv1.cell; have hf1 := hv1.frozen; have HZ2 := Aside0.mk (And.intro hv2 (And.intro hr2 (And.intro hk2 (And.intro hb2 hkp)))); clear hv1 hv2 hr2 hk2 hb2 hkp hown' hgrow)
        go_roundw
        case rel => exact ⟨j + 1, by go_num, ⟨by have := H1.out; omega, hS.out.ko.trans HZ2.out.2.2.1, KpG_t hS.out.kg ⟨HZ2.out.2.2.2.1, HZ2.out.2.2.2.2⟩, ⟨_, HZ2.out.1, by
          have := HZ2.out.2.1
          rw [HTK.out, ← List.append_assoc]
          exact this⟩⟩⟩
        case measure => simp [intOf]; have := H1.out; omega
      · have d1 : decide ((j : Int) < (ms.length : Int)) = false := decide_eq_false (by omega)
        have hj : j = ms.length := by have := hS.out.le; omega
        subst hj
        gi_wp2
        obtain ⟨vo, bvo, hoo⟩ := hS.out.ex
        rw [List.take_length] at hoo
        have hkW : KeepsOthers W W3 := KeepsOthers.of_grownBy (row := none) ⟨HH3.out.os, HH3.out.tape, HH3.out.output, HH3.out.size, fun k hk _ => HH3.out.block k hk⟩ (fun _ _ e => by cases e)
        have hbW : Below (w4.heap.size + 1) W wr := (HH3.out.mono HN1.out).trans hS.out.kg.1
        refine ⟨(hkW.trans hS.out.ko).from _, hbW, ⟨vo, bvo, ?_, trivial⟩, HV.out.2.2.trans hbW⟩
        have e1 : ((pre ++ [x]).flatMap (misL l)).length = k0 + ms.length := by rw [List.flatMap_append, List.length_append, List.flatMap_cons, List.flatMap_nil, List.append_nil, HMS.out, HK0.out]
        have e2 : (pre ++ [x]).flatMap (misC l) = pre.flatMap (misC l) ++ ms.flatMap (flo xv) := by rw [List.flatMap_append, List.flatMap_cons, List.flatMap_nil, List.append_nil, HMC.out, HMS.out]
        rw [e1, e2]
        exact hoo
  case done =>
    rintro D ys W hD rfl ⟨⟨v, hv, hrow, _⟩, hB⟩ hK
    have hc := hv.cell
    gi_wp2
    refine ⟨by simp, .inl ⟨_, _, rfl, run_takeDeferred hK, ?_⟩⟩
    have hb : Below w.heap.size w (W.putObj D (Obj.deferred none)) := ((HB4.out.trans (e5.mono hWs)).trans (hB.mono (by omega))).trans (belowK_b (w := w) (Nat.le_refl _) W D _ _ (by omega) hK rfl rfl)
    refine ⟨_, results_tmp2 rfl _ _ _, ?_, hb⟩
    have hcnt := mis_count HU.out h16
    rcases hrow.2 with ⟨rfl, hk0⟩ | ⟨g, cap, cur, rfl, _⟩
    · exact ⟨none, 0, 0, rfl, by rw [← hcnt, hk0]⟩
    · exact ⟨_, _, _, rfl, hcnt⟩
  case stop =>
    rintro D c pre W _ _ h _
    exact h.elim
theorem miss_tells {l : List Int} (hu : ∀ x ∈ l, U64 x) : MissTells l := by
  intro A c w hr
  by_cases hz : shapeF l = 0
  · have h := hz
    unfold shapeF at h
    by_cases h16 : l.length > 16
    · rw [if_pos h16] at h; exact absurd h (by decide)
    · rw [if_neg h16] at h
      by_cases h0 : l.length = 0
      · rw [if_pos h0] at h; exact absurd h (by decide)
      · rw [if_neg h0] at h
        refine (miss_go A c l w hr hu hz (by omega) (by omega) h).mono ?_
        rintro e w2 ⟨⟨A2, k, c2, rfl, hk⟩, hb⟩
        exact ⟨⟨A2, k, c2, by rw [hz], fun _ => hk⟩, hb⟩
  · refine (miss_stop A c l w hr hu hz).mono ?_
    rintro e w2 ⟨⟨A2, k, c2, rfl⟩, hb⟩
    exact ⟨⟨A2, k, c2, rfl, fun h => absurd h hz⟩, hb⟩
/-- The program's Check is the document's. -/
theorem confCheck_calls (C : Cf) (w : World) (hC : C.At w) (hL : C.Lim) : Calls Tryd.prog 57 #[.agg C.v] w fun e w' => e = .returned (.tuple #[.int .i64 (chkF C).1, .int .i64 (chkF C).2]) ∧ Below w.heap.size w w' := confCheck_miss C w hC hL (miss_tells hL.u)
end Go.Proofs.YtoliipbmcekciaaDoor.QDd

namespace Go.Proofs.YtoliipbmcekciaaDoor.QDd
open Go.RowKit Go.Proofs.YtoliipbmcekciaaDoorW.PrintWords Go.Proofs.YtoliipbmcekciaaDoorW.PrintLast Go.Proofs.YtoliipbmcekciaaDoorW.PrintMore
open Go.Proofs.YtoliipbmcekciaaDoor.QDc (tk putL putN obj_below take_at yields_blk load_blk load_any store_blk blk_setCells setAll far_setCells below_setCells)
set_option linter.unusedVariables false
set_option linter.unusedSimpArgs false
set_option maxRecDepth 100000 in
set_option maxHeartbeats 2000000 in
theorem Row_calls (A : Option Addr) (c n : Nat) (w : World) (h1 : 1 ≤ n) (h2 : n ≤ 64) : Calls Tryd.prog 49 #[.slice A n c] w fun e w' => e = .returned (.bool true) ∧ Below w.heap.size w w' := by
  have d1 : decide ((n : Int) ≥ 1) = true := decide_eq_true (by omega)
  have d1' : decide (1 ≤ (n : Int)) = true := d1
  have d1'' : decide (1 ≤ n) = true := decide_eq_true h1
  have d2 : decide ((n : Int) ≤ 64) = true := decide_eq_true (by omega)
  have d2' : decide (n ≤ 64) = true := decide_eq_true h2
  go_enter Tryd.func49, Tryd.ntmps49
  go_wp2
  go_ret
  exact ⟨rfl, Below.refl _ _⟩
end Go.Proofs.YtoliipbmcekciaaDoor.QDd

namespace Go.Proofs.YtoliipbmcekciaaDoor.QDd
open Go.RowKit Go.Proofs.YtoliipbmcekciaaDoorW.PrintWords Go.Proofs.YtoliipbmcekciaaDoorW.PrintLast Go.Proofs.YtoliipbmcekciaaDoorW.PrintMore
open Go.Proofs.YtoliipbmcekciaaDoor.QDc (tk putL putN obj_below take_at yields_blk load_blk load_any store_blk blk_setCells setAll far_setCells below_setCells)
set_option linter.unusedVariables false
set_option linter.unusedSimpArgs false
attribute [local go_sem] Oper.semAt_some
set_option maxRecDepth 100000 in
theorem fmay_calls (A : Option Addr) (c n : Nat) (w : World) (h1 : 1 ≤ n) (h2 : n ≤ 64) : Calls Tryd.prog 84 #[.slice A n c] w fun e w' => e = .returned (.bool true) ∧ Below w.heap.size w w' := by
  have d1 : decide ((n : Int) ≥ 1) = true := decide_eq_true (by omega)
  have d1' : decide (1 ≤ (n : Int)) = true := d1
  have d1'' : decide (1 ≤ n) = true := decide_eq_true h1
  have d2 : decide ((n : Int) ≤ 64) = true := decide_eq_true (by omega)
  have d2' : decide (n ≤ 64) = true := decide_eq_true h2
  go_enter Tryd.func84, Tryd.ntmps84
  go_wp2
  go_ret
  exact ⟨rfl, Below.refl _ _⟩
set_option maxRecDepth 100000 in
theorem ftick_calls (i : Int) (w : World) (h1 : 0 ≤ i) (h2 : i ≤ 1048576) : Calls Tryd.prog 85 #[.int .i64 i] w fun e w' => e = .returned (.bool true) ∧ Below w.heap.size w w' := by
  have d1 : decide (i ≥ 0) = true := decide_eq_true h1
  have d1' : decide (0 ≤ i) = true := d1
  have d2 : decide (i ≤ 1048576) = true := decide_eq_true h2
  go_enter Tryd.func85, Tryd.ntmps85
  go_wp2
  go_ret
  exact ⟨rfl, Below.refl _ _⟩
set_option maxRecDepth 100000 in
theorem rtick_calls (i : Int) (w : World) (h1 : 0 ≤ i) (h2 : i ≤ 1048576) : Calls Tryd.prog 50 #[.int .i64 i] w fun e w' => e = .returned (.bool true) ∧ Below w.heap.size w w' := by
  have d1 : decide (i ≥ 0) = true := decide_eq_true h1
  have d1' : decide (0 ≤ i) = true := d1
  have d2 : decide (i ≤ 1048576) = true := decide_eq_true h2
  go_enter Tryd.func50, Tryd.ntmps50
  go_wp2
  go_ret
  exact ⟨rfl, Below.refl _ _⟩
set_option maxRecDepth 100000 in
set_option maxHeartbeats 2000000 in
theorem fowner_calls (A : Option Addr) (c : Nat) (l : List Int) (i : Nat) (w : World) (h1 : 1 ≤ l.length) (h2 : l.length ≤ 64) (hr : Kd.C (Kd.int .i64) w A l.length l) : Calls Tryd.prog 86 #[.slice A l.length c, .int .i64 (i : Int)] w fun e w' => e = .returned (.int .i64 (rd l ((i % l.length : Nat) : Int))) ∧ Below w.heap.size w w' := by
  have hlt : i % l.length < l.length := Nat.mod_lt _ h1
  obtain ⟨ad, eA, y0⟩ := Kd.at_int hr ((i % l.length : Nat) : Int) (by omega) (by omega)
  subst eA
  rw [Int.toNat_natCast] at y0
  have hz : ¬ (l.length : Int) = 0 := by omega
  have hm : Int.tmod (i : Int) (l.length : Int) = ((i % l.length : Nat) : Int) := by rw [Int.ofNat_tmod]
  have hx0 : (0 : Int) ≤ ((i % l.length : Nat) : Int) := by omega
  have hx1 : ((i % l.length : Nat) : Int) < (l.length : Int) := by omega
  generalize hk : i % l.length = k at y0 hm hx0 hx1 ⊢
  clear hk hlt
  have hw : wrap64 ((k : Nat) : Int) = (k : Int) := by unfold wrap64; omega
  go_enter Tryd.func86, Tryd.ntmps86
  go_wp2
  go_ret
  exact ⟨rfl, Below.refl _ _⟩
set_option maxRecDepth 100000 in
set_option maxHeartbeats 2000000 in
/-- The program's Owner. -/
theorem fOwner_calls (A : Option Addr) (c : Nat) (l : List Int) (i : Nat) (w : World) (h1 : 1 ≤ l.length) (h2 : l.length ≤ 64) (hi : i ≤ 1048576) (hr : Kd.C (Kd.int .i64) w A l.length l) : Calls Tryd.prog 58 #[.slice A l.length c, .int .i64 (i : Int)] w fun e w' => e = .returned (.tuple #[.int .i64 (rd l ((i % l.length : Nat) : Int)), .int .i64 0]) ∧ Below w.heap.size w w' := by
  have HR := Aside0.mk hr
  have HN := Aside0.mk (And.intro h1 (And.intro h2 hi))
  clear hr
  go_enter Tryd.func58, Tryd.ntmps58
  go_wp2_with (first | (go_at_call 84; refine (fmay_calls A c l.length _ HN.out.1 HN.out.2.1).mono ?_; rintro e w2 ⟨rfl, hb⟩; have N1 := Aside0.mk hb; clear hb) | (go_at_call 85; refine (ftick_calls _ _ (by omega) (by have := HN.out.2.2; omega)).mono ?_; rintro e w3 ⟨rfl, hb⟩; have N2 := Aside0.mk (N1.out.trans (hb.mono N1.out.size)); clear hb) | (go_at_call 86; refine (fowner_calls A c l i _ HN.out.1 HN.out.2.1 (Kd.C_below HR.out N2.out)).mono ?_; rintro e w4 ⟨rfl, hb⟩; have N3 := Aside0.mk (N2.out.trans (hb.mono N2.out.size)); clear hb))
  go_ret2
  exact ⟨rfl, N3.out⟩
set_option maxRecDepth 100000 in
set_option maxHeartbeats 2000000 in
/-- The document's Owner. -/
theorem ROwner_calls (A : Option Addr) (c : Nat) (l : List Int) (i : Nat) (w : World) (h1 : 1 ≤ l.length) (h2 : l.length ≤ 64) (hi : i ≤ 1048576) (hr : Kd.C (Kd.int .i64) w A l.length l) : Calls Tryd.prog 19 #[.slice A l.length c, .int .i64 (i : Int)] w fun e w' => e = .returned (.tuple #[.int .i64 (rd l ((i % l.length : Nat) : Int)), .int .i64 0]) ∧ Below w.heap.size w w' := by
  have HR := Aside0.mk hr
  have HN := Aside0.mk (And.intro h1 (And.intro h2 hi))
  clear hr
  go_enter Tryd.func19, Tryd.ntmps19
  go_upto_region 3 with (first | (go_at_call 49; refine (Row_calls A c l.length _ HN.out.1 HN.out.2.1).mono ?_; rintro e w2 ⟨rfl, hb⟩; have N1 := Aside0.mk hb; clear hb) | (go_at_call 50; refine (rtick_calls _ _ (by omega) (by have := HN.out.2.2; omega)).mono ?_; rintro e w3 ⟨rfl, hb⟩; have N2 := Aside0.mk (N1.out.trans (hb.mono N1.out.size)); clear hb))
  have hlt : i % l.length < l.length := Nat.mod_lt _ h1
  obtain ⟨ad, eA, y0⟩ := Kd.at_int (Kd.C_below HR.out N2.out) ((i % l.length : Nat) : Int) (by omega) (by omega)
  subst eA
  rw [Int.toNat_natCast] at y0
  have hz : ¬ (l.length : Int) = 0 := by omega
  have hm : Int.tmod (i : Int) (l.length : Int) = ((i % l.length : Nat) : Int) := by rw [Int.ofNat_tmod]
  have hx0 : (0 : Int) ≤ ((i % l.length : Nat) : Int) := by omega
  have hx1 : ((i % l.length : Nat) : Int) < (l.length : Int) := by omega
  generalize hk : i % l.length = k at y0 hm hx0 hx1 ⊢
  have HK := Aside0.mk hk
  clear hk hlt
  have hw : wrap64 ((k : Nat) : Int) = (k : Int) := by unfold wrap64; omega
  go_wp2_with fail
  go_ret2
  exact ⟨by rw [HK.out]; rfl, N2.out⟩
end Go.Proofs.YtoliipbmcekciaaDoor.QDd

namespace Go.Proofs.YtoliipbmcekciaaDoor.QDc
open Go.RowKit Go.Proofs.YtoliipbmcekciaaDoorW.PrintWords Go.Proofs.YtoliipbmcekciaaDoorW.PrintLast Go.Proofs.YtoliipbmcekciaaDoorW.PrintMore
attribute [local go_sem] max2_int min2_int max_two min_two max_three min_three max_four min_four   -- for this text's walks alone
set_option linter.unusedVariables false
set_option linter.unusedSimpArgs false

theorem eqA55 (d : Nat) (w : World) (x0 y0 : Int) (x1 y1 : Int) (x2 y2 : Int) (x3 y3 : Int) (x4 y4 : Int) :
    (Op.equalIn (d + 2) 55 (.agg #[.int .u8 x0, .int .u8 x1, .int .u8 x2, .int .u32 x3, .int .u64 x4]) (.agg #[.int .u8 y0, .int .u8 y1, .int .u8 y2, .int .u32 y3, .int .u64 y4])).run Tryd.prog w = .ok (x0 == y0 && (x1 == y1 && (x2 == y2 && (x3 == y3 && (x4 == y4))))) w := by
  refine eqA_of Tryd.underlying55 (by kernel_rfl) ?_
  refine eqf_cons (by rfl) (by go_simp; rfl) (by go_simp; rfl) (by go_simp) ?_
  refine eqf_cons (by rfl) (by go_simp; rfl) (by go_simp; rfl) (by go_simp) ?_
  refine eqf_cons (by rfl) (by go_simp; rfl) (by go_simp; rfl) (by go_simp) ?_
  refine eqf_cons (by rfl) (by go_simp; rfl) (by go_simp; rfl) (by go_simp) ?_
  exact eqf_last (by rfl) (by go_simp; rfl) (by go_simp; rfl) (by go_simp)
end Go.Proofs.YtoliipbmcekciaaDoor.QDc
namespace Go.Proofs.YtoliipbmcekciaaDoor.QDc
open Go.RowKit Go.Proofs.YtoliipbmcekciaaDoorW.PrintWords Go.Proofs.YtoliipbmcekciaaDoorW.PrintLast Go.Proofs.YtoliipbmcekciaaDoorW.PrintMore
attribute [local go_sem] max2_int min2_int max_two min_two max_three min_three max_four min_four   -- for this text's walks alone
set_option linter.unusedVariables false
set_option linter.unusedSimpArgs false

theorem eqA75 (d : Nat) (w : World) (x0 y0 : Int) (x1 y1 : Int) (x2 y2 : Int) (x3 y3 : Int) (x4 y4 : Int) (x5 y5 : Bool) :
    (Op.equalIn (d + 3) 75 (.agg #[.int .u8 x0, .int .u8 x1, .int .u8 x2, .int .u32 x3, .int .u64 x4, .bool x5]) (.agg #[.int .u8 y0, .int .u8 y1, .int .u8 y2, .int .u32 y3, .int .u64 y4, .bool y5])).run Tryd.prog w = .ok ((x0 == y0 && (x1 == y1 && (x2 == y2 && (x3 == y3 && (x4 == y4))))) && (x5 == y5)) w := by
  refine eqA_of Tryd.underlying75 (by kernel_rfl) ?_
  refine eqf_cons (by rfl) (by go_simp) (by go_simp) (eqA55 (d + 0) w _ _ _ _ _ _ _ _ _ _) ?_
  exact eqf_last (by rfl) (by go_simp; rfl) (by go_simp; rfl) (by go_simp)
end Go.Proofs.YtoliipbmcekciaaDoor.QDc

