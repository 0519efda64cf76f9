/- Decode: the law's cut of a tick. -/
import Derived.Test.YtoliipbmcekciaaDoorHDc
namespace Go.Proofs.YtoliipbmcekciaaDoor.QDc
open Go.RowKit Go.Shelf Go.Proofs.YtoliipbmcekciaaDoorW.PrintWords Go.Proofs.YtoliipbmcekciaaDoorW.PrintLast Go.Proofs.YtoliipbmcekciaaDoorW.PrintMore
set_option linter.unusedVariables false
set_option linter.unusedSimpArgs false
def cutB (B : List (List Int)) : List (List Int) := (B.take 20).map (List.take 120)
def CInv (wR w : World) (A : Option Addr) (c : Nat) (B : List (List Int)) (p1 : Value) (m : Nat) (v : Value) (wr : World) : Prop :=
  Below w.heap.size w wr ∧ (∃ vs, wr.ownsRow w.heap.size 38 1 v m vs ∧ Reps ((Kd.slice 5 (Kd.int .u8)).K wR) 1 ((B.take m).map (List.take 120)) vs) ∧ m ≤ B.length ∧ m ≤ 20 ∧ wr.heap[w.heap.size]? = some (.cells #[.slice A B.length c, p1] 31 (0, 0)) ∧ wr.heap[w.heap.size + 1]? = some (.cells #[.slice none 0 0, .slice none 0 0] 31 (0, 0))
theorem Kd_C_take {w : World} {A : Option Addr} {l : List Int} (h : Kd.C (Kd.int .u8) w A l.length l) (n : Nat) (hn : n ≤ l.length) : Kd.C (Kd.int .u8) w A n (l.take n) := by
  obtain ⟨h1, h2, h3⟩ := h
  refine ⟨by rw [List.length_take]; omega, by omega, fun hp => ?_⟩
  obtain ⟨ad, ea, hc⟩ := h3 (by omega)
  refine ⟨ad, ea, fun j p hj => hc j p ?_⟩
  rw [List.getElem?_take] at hj
  split at hj
  · exact hj
  · cases hj
theorem cutB_len (B : List (List Int)) : (cutB B).length = min 20 B.length := by unfold cutB; rw [List.length_map, List.length_take]
/-- A row of slices that owns its cells, read. -/
theorem row_reads {wR w' : World} {base : Nat} {v : Value} {vs : List Value} {B : List (List Int)} (ho : w'.ownsRow base 38 1 v B.length vs) (hrep : Reps ((Kd.slice 5 (Kd.int .u8)).K wR) 1 B vs) (hb : Below wR.heap.size wR w') :
    ∃ A' c', v = .slice A' B.length c' ∧ B.length ≤ c' ∧ Kd.C (Kd.slice 5 (Kd.int .u8)) w' A' B.length B := by
  obtain ⟨A', c', rfl, hrd⟩ := own_reads_row ho hrep rfl
  have hc' : B.length ≤ c' := by
    rcases ho.2 with ⟨hv, h0⟩ | ⟨g, cap, cur, hv, _, _, hle, _⟩
    · omega
    · injection hv with _ _ hc
      omega
  refine ⟨A', c', rfl, hc', ?_⟩
  obtain ⟨r1, r2, r3⟩ := hrd
  refine ⟨r1, r2, fun hp => ?_⟩
  obtain ⟨ad, ea, hq⟩ := r3 hp
  refine ⟨ad, ea, fun j p hj => ?_⟩
  obtain ⟨cs, hl, hk, hcell⟩ := hq j p hj
  exact ⟨cs, hl, (Kd.slice 5 (Kd.int .u8)).K_below hb hk, hcell⟩
theorem CInv_done {wR w wr : World} {A : Option Addr} {c : Nat} {B : List (List Int)} {p1 : Value} {m : Nat} {v : Value} (h : CInv wR w A c B p1 m v wr) (hm : m = min 20 B.length) :
    ∃ vs, (wr.setCells (w.heap.size + 1) 0 [v, p1]).ownsRow w.heap.size 38 1 v (cutB B).length vs ∧ Reps ((Kd.slice 5 (Kd.int .u8)).K wR) 1 (cutB B) vs ∧ Below w.heap.size w (wr.setCells (w.heap.size + 1) 0 [v, p1]) := by
  obtain ⟨hb, ⟨vs, ho, hrep⟩, h1, h2, hx, hy⟩ := h
  have hb2 := below_setCells (w0 := w) (B := w.heap.size) (g := w.heap.size + 1) (by omega) [v, p1] 0 wr hb
  have ho2 := own_setCells (own_ne ho hy (by decide)) [v, p1] 0 wr ho
  have e : (B.take m).map (List.take 120) = cutB B := by
    unfold cutB
    rw [hm]
    by_cases h20 : B.length ≤ 20
    · rw [Nat.min_eq_right h20, List.take_length, List.take_of_length_le h20]
    · rw [Nat.min_eq_left (by omega)]
  have el : (cutB B).length = m := by rw [cutB_len, hm]
  rw [el]
  rw [e] at hrep
  exact ⟨vs, ho2, hrep, hb2⟩
theorem CInv_step {wR w wr w2 : World} {A A3 : Option Addr} {c c3 : Nat} {B : List (List Int)} {p1 : Value} {m : Nat} {v1 y : Value} {vs : List Value} (h : CInv wR w A c B p1 m (.slice A3 m c3) wr)
    (ho : wr.ownsRow w.heap.size 38 1 (.slice A3 m c3) m vs) (hrep : Reps ((Kd.slice 5 (Kd.int .u8)).K wR) 1 ((B.take m).map (List.take 120)) vs)
    (hm : m < B.length) (hm2 : m < 20) (hy : (Kd.slice 5 (Kd.int .u8)).K wR ((B.getD m []).take 120) [y])
    (hown : w2.ownsRow w.heap.size 38 1 v1 (vs ++ [y]).length (vs ++ [y])) (hb2 : Below w.heap.size w w2) (hg : wr.grownBy w2 (Value.slice A3 m c3).ownBlock) : CInv wR w A c B p1 (m + 1) v1 w2 := by
  have hl : vs.length = m := by have := ho.1; omega
  have k1 := hg.block _ (Array.getElem?_eq_some_iff.1 h.2.2.2.2.1).1 (own_ne ho h.2.2.2.2.1 (by decide))
  have k2 := hg.block _ (Array.getElem?_eq_some_iff.1 h.2.2.2.2.2).1 (own_ne ho h.2.2.2.2.2 (by decide))
  refine ⟨hb2, ⟨vs ++ [y], ?_, ?_⟩, by omega, by omega, k1.trans h.2.2.2.2.1, k2.trans h.2.2.2.2.2⟩
  · rw [List.length_append, hl] at hown
    exact hown
  · rw [List.take_succ_eq_append_getElem hm, List.map_append]
    refine hrep.snoc ?_ rfl
    rw [List.getD_eq_getElem?_getD, List.getElem?_eq_getElem hm] at hy
    exact hy
set_option maxRecDepth 100000 in
set_option maxHeartbeats 2000000 in
theorem cut_calls (A : Option Addr) (c : Nat) (B : List (List Int)) (P1 : Option Addr) (n1 k1 : Nat) (wR w : World) (hb0 : Below wR.heap.size wR w) (hr : Kd.C (Kd.slice 5 (Kd.int .u8)) wR A B.length B) (hcap : B.length ≤ c) : Calls Tryd.prog 10 #[.agg #[.slice A B.length c, .slice P1 n1 k1]] w fun e w' => ∃ A' c' vs, e = .returned (.agg #[.slice A' (cutB B).length c', .slice P1 n1 k1]) ∧ w'.ownsRow w.heap.size 38 1 (.slice A' (cutB B).length c') (cutB B).length vs ∧ Reps ((Kd.slice 5 (Kd.int .u8)).K wR) 1 (cutB B) vs ∧ Below w.heap.size w w' := by
  have HB0 := Aside0.mk hb0
  have HR := Aside0.mk hr
  have HC := Aside0.mk hcap
  clear hr hcap hb0
  go_enter Tryd.func10, Tryd.ntmps10
  go_wp2
  have H0 : Aside0 (CInv wR w A c B (.slice P1 n1 k1) 0 (.slice none 0 0) ((w.alloc (Obj.cells #[Value.slice A B.length c, Value.slice P1 n1 k1] 31)).alloc (Obj.cells #[Value.slice none 0 0, Value.slice none 0 0] 31))) := ⟨⟨((Below.refl _ w).alloc (Nat.le_refl _) _).alloc (by simp) _, ⟨[], World.ownsRow_nil _ _ _ _, Reps.none _ _⟩, by omega, by omega, (Below.heap_alloc _ _ _ (by simp)).trans (World.alloc_heap_new w _), by have := World.alloc_heap_new (w.alloc (Obj.cells #[Value.slice A B.length c, Value.slice P1 n1 k1] 31)) (Obj.cells #[Value.slice none 0 0, Value.slice none 0 0] 31); rwa [World.size_alloc] at this⟩⟩
  go_loopw [3, 4, 5] (fun v i b wr => ∃ m : Nat, i = .int .i64 (m : Int) ∧ Aside0 (CInv wR w A c B (.slice P1 n1 k1) m v wr)) (fun _ i _ _ => B.length - (intOf i).toNat)
  case atStart => exact ⟨0, rfl, H0⟩
  case round =>
    clear H0
    obtain ⟨m, rfl, hS⟩ := hrel
    obtain ⟨vs, hvs⟩ := hS.out.2.1
    have HV := Aside0.mk hvs
    clear hvs
    obtain ⟨A3, c3, rfl, hc3, _⟩ := own_reads_of_le (d := Value.bool false) (enc := id) (n := m) (xs := vs) (by rw [show encs id vs = vs by simp [encs]]; exact HV.out.1)
    have x0 : wr.cell? ⟨w.heap.size, 0, none⟩ = some (.slice A B.length c) := by simp [World.cell?, hS.out.2.2.2.2.1]
    have x1 : wr.cell? ⟨w.heap.size, 1, none⟩ = some (.slice P1 n1 k1) := by simp [World.cell?, hS.out.2.2.2.2.1]
    have z0 : wr.cell? ⟨w.heap.size + 1, 0, none⟩ = some (.slice none 0 0) := by simp [World.cell?, hS.out.2.2.2.2.2]
    have z1 : wr.cell? ⟨w.heap.size + 1, 1, none⟩ = some (.slice none 0 0) := by simp [World.cell?, hS.out.2.2.2.2.2]
    have f0 : wr.frozen? ⟨w.heap.size + 1, 0, none⟩ = false := by simp [World.frozen?, hS.out.2.2.2.2.2]
    have f1 : wr.frozen? ⟨w.heap.size + 1, 1, none⟩ = false := by simp [World.frozen?, hS.out.2.2.2.2.2]
    by_cases h1 : (m : Int) < (B.length : Int)
    · by_cases h2 : (m : Int) < 20
      · have d1 : decide ((m : Int) < (B.length : Int)) = true := decide_eq_true h1
        have d2 : decide ((m : Int) < 20) = true := decide_eq_true h2
        have H1 := Aside0.mk h1
        have H2 := Aside0.mk h2
        obtain ⟨ad, Ae, ce, rfl, xe, hle, hCe⟩ := el_at HR.out (m : Int) (by omega) h1
        rw [Int.toNat_natCast] at xe hle hCe
        have xe' := pw_cell_below hS.out.1 (pw_cell_below HB0.out xe)
        have HE := Aside0.mk (And.intro hle hCe)
        generalize hl : B.getD m [] = l at xe xe' HE hle hCe
        have HL := Aside0.mk hl
        clear hl hCe xe
        by_cases h3 : (l.length : Int) > 120
        · have d3 : decide ((l.length : Int) > 120) = true := decide_eq_true h3
          go_upto_region 8 with fail
          clear x0 x1 z0 z1 f0 f1
          have hvl : vs.length = m := by have := HV.out.1.1; omega
          have hml : Aside0 ((vs.length + 1) * 24 ≤ 140737488355328) := ⟨by have := H2.out; omega⟩
          have HP : Aside0 (wr.ownsRow w.heap.size 38 1 (.slice A3 m c3) vs.length vs) := ⟨by rw [hvl]; exact HV.out.1⟩
          go_wp2_with (first | ((with_reducible refine gate_builtin (b := .append) rfl ?_); at_builtin; refine print_append (w0 := w) w.heap.size rfl (.tmp 27) (.tmp 29) 29 38 (.slice none 0 0) 24 rfl Tryd.underlying29 info38 rfl (by decide) (.slice A3 m c3) vs (.slice Ae 120 ce) rfl rfl rfl HP.out hS.out.1 hS.out.1.size hml.out ?_; intro v1 w2 hown hB2 hg2 hat; have HX := Aside0.mk (And.intro hB2 (And.intro hown hg2)); clear hown hB2 hg2 hat))
          have hw2 : wrap64 ((m : Int) + 1) = ((m + 1 : Nat) : Int) := by have := H2.out; unfold wrap64; omega
          have hh : B.length - ((m : Int) + 1).toNat < B.length - ((m : Int)).toNat := by have := H1.out; omega
          go_roundw
          case rel =>
            refine ⟨m + 1, by push_cast; rfl, ⟨CInv_step hS.out HV.out.1 HV.out.2 (by have := H1.out; omega) (by have := H2.out; omega) ?_ HX.out.2.1 HX.out.1 HX.out.2.2⟩⟩
            rw [HL.out]
            have e1 : (l.take 120).length = 120 := by rw [List.length_take]; have := d3; simp at this; omega
            refine ⟨Ae, ce, by rw [e1], by have := HE.out.1; rw [e1]; have := d3; simp at this; omega, ?_⟩
            rw [e1]
            exact Kd_C_take HE.out.2 120 (by have := d3; simp at this; omega)
          case measure =>
            exact hh
        · have d3 : decide ((l.length : Int) > 120) = false := decide_eq_false h3
          go_upto_region 8 with fail
          clear x0 x1 z0 z1 f0 f1
          have hvl : vs.length = m := by have := HV.out.1.1; omega
          have hml : Aside0 ((vs.length + 1) * 24 ≤ 140737488355328) := ⟨by have := H2.out; omega⟩
          have HP : Aside0 (wr.ownsRow w.heap.size 38 1 (.slice A3 m c3) vs.length vs) := ⟨by rw [hvl]; exact HV.out.1⟩
          go_wp2_with (first | ((with_reducible refine gate_builtin (b := .append) rfl ?_); at_builtin; refine print_append (w0 := w) w.heap.size rfl (.tmp 27) (.tmp 29) 29 38 (.slice none 0 0) 24 rfl Tryd.underlying29 info38 rfl (by decide) (.slice A3 m c3) vs (.slice Ae l.length ce) rfl rfl rfl HP.out hS.out.1 hS.out.1.size hml.out ?_; intro v1 w2 hown hB2 hg2 hat; have HX := Aside0.mk (And.intro hB2 (And.intro hown hg2)); clear hown hB2 hg2 hat))
          have hw2 : wrap64 ((m : Int) + 1) = ((m + 1 : Nat) : Int) := by have := H2.out; unfold wrap64; omega
          have hh : B.length - ((m : Int) + 1).toNat < B.length - ((m : Int)).toNat := by have := H1.out; omega
          go_roundw
          case rel =>
            refine ⟨m + 1, by push_cast; rfl, ⟨CInv_step hS.out HV.out.1 HV.out.2 (by have := H1.out; omega) (by have := H2.out; omega) ?_ HX.out.2.1 HX.out.1 HX.out.2.2⟩⟩
            rw [HL.out]
            have e1 : l.take 120 = l := List.take_of_length_le (by have := d3; simp at this; omega)
            rw [e1]
            exact ⟨Ae, ce, rfl, HE.out.1, HE.out.2⟩
          case measure =>
            exact hh
      · have d1 : decide ((m : Int) < (B.length : Int)) = true := decide_eq_true h1
        have d2 : decide ((m : Int) < 20) = false := decide_eq_false h2
        go_wp2
        have hblk := blk_setCells [Value.slice A3 m c3, Value.slice P1 n1 k1] 0 _ wr hS.out.2.2.2.2.2
        change bodyPost _ _ _ Exit.ret _ (wr.setCells (w.heap.size + 1) 0 [Value.slice A3 m c3, Value.slice P1 n1 k1])
        obtain ⟨Wf, hWf⟩ : ∃ Wf, wr.setCells (w.heap.size + 1) 0 [Value.slice A3 m c3, Value.slice P1 n1 k1] = Wf := ⟨_, rfl⟩
        have hdone := CInv_done (p1 := .slice P1 n1 k1) (v := .slice A3 m c3) hS.out (by have := hS.out.2.2; omega)
        rw [hWf] at hblk hdone ⊢
        have y0 : Wf.cell? ⟨w.heap.size + 1, 0, none⟩ = some (.slice A3 m c3) := by simp [World.cell?, hblk, setAll]
        have y1 : Wf.cell? ⟨w.heap.size + 1, 1, none⟩ = some (.slice P1 n1 k1) := by simp [World.cell?, hblk, setAll]
        refine bodyPost_ret (by simp [results, Tryd.results10, go_sem, y0, y1]; try rfl) rfl ?_
        obtain ⟨vs', ho', hrep', hb'⟩ := hdone
        have hml : m = (cutB B).length := by rw [cutB_len]; have := hS.out.2.2; omega
        rw [hml] at ho' ⊢
        exact ⟨A3, c3, rfl, vs', ho', hrep', hb'⟩
    · have d1 : decide ((m : Int) < (B.length : Int)) = false := decide_eq_false h1
      go_wp2
      have hblk := blk_setCells [Value.slice A3 m c3, Value.slice P1 n1 k1] 0 _ wr hS.out.2.2.2.2.2
      change bodyPost _ _ _ Exit.ret _ (wr.setCells (w.heap.size + 1) 0 [Value.slice A3 m c3, Value.slice P1 n1 k1])
      obtain ⟨Wf, hWf⟩ : ∃ Wf, wr.setCells (w.heap.size + 1) 0 [Value.slice A3 m c3, Value.slice P1 n1 k1] = Wf := ⟨_, rfl⟩
      have hdone := CInv_done (p1 := .slice P1 n1 k1) (v := .slice A3 m c3) hS.out (by have := hS.out.2.2; omega)
      rw [hWf] at hblk hdone ⊢
      have y0 : Wf.cell? ⟨w.heap.size + 1, 0, none⟩ = some (.slice A3 m c3) := by simp [World.cell?, hblk, setAll]
      have y1 : Wf.cell? ⟨w.heap.size + 1, 1, none⟩ = some (.slice P1 n1 k1) := by simp [World.cell?, hblk, setAll]
      refine bodyPost_ret (by simp [results, Tryd.results10, go_sem, y0, y1]; try rfl) rfl ?_
      obtain ⟨vs', ho', hrep', hb'⟩ := hdone
      have hml : m = (cutB B).length := by rw [cutB_len]; have := hS.out.2.2; omega
      rw [hml] at ho' ⊢
      exact ⟨A3, c3, rfl, vs', ho', hrep', hb'⟩
end Go.Proofs.YtoliipbmcekciaaDoor.QDc
