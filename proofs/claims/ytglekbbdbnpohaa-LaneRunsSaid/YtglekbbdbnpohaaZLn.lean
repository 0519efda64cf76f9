/- Lane: Reset. Written by a program of this repo (tools/gen_lreset.py). -/
import Derived.Test.YtglekbbdbnpohaaZ3Ln
import Derived.Test.YtglekbbdbnpohaaZ2Ln
import Derived.StillTailTactics
namespace Go.Proofs.Ytglekbbdbnpohaa.QLn
open Go.RowKit Go.Proofs.YtglekbbdbnpohaaW.PrintWords Go.Proofs.YtglekbbdbnpohaaW.PrintLast Go.Proofs.YtglekbbdbnpohaaW.PrintMore
set_option linter.unusedVariables false
set_option linter.unusedSimpArgs false
theorem Reset_claimed (b : Nat) (s : LS) (hc : 0 < s.credit) (hne : s.ready ≠ s.tail) (w : World) (h : Ln w b s) : Calls Try.prog 18 #[.pointer (some ⟨b, 0, none⟩)] w fun e w' =>
    e = .returned (.tuple #[.slice none 0 0, .int .i64 84]) ∧ Below w.heap.size w w' := by
  have d1 : decide (s.credit > 0) = true := decide_eq_true hc
  have d2 : (s.ready != s.tail) = true := by simp [hne]
  have HB0 := Aside0.mk ((Bd.start h).alloc (.cells #[.pointer (some ⟨b, 0, none⟩)] 25))
  have HW0 : Aside0 (Below w.heap.size w (w.alloc (.cells #[.pointer (some ⟨b, 0, none⟩)] 25))) := ⟨(Below.refl _ _).alloc (Nat.le_refl _) _⟩
  clear h hc hne
  go_enter Try.func18, Try.ntmps18
  go_upto_region 1 with fail
  generalize w.alloc (.cells #[.pointer (some ⟨b, 0, none⟩)] 25) = w1 at HB0 HW0 ⊢
  have t0 : w1.cell? ⟨w.heap.size, 0, none⟩ = some (.pointer (some ⟨b, 0, none⟩)) := (HB0.out.ptr List.mem_cons_self 0).1
  go_upto_region 3 with (go_at_call 34; refine (is_calls b s _ HB0.out.ln).mono ?_; rintro e1 w2 ⟨rfl, hw2⟩; have HB1 := Aside0.mk (HB0.out.below hw2); have HW1 := Aside0.mk (HW0.out.trans (hw2.mono HW0.out.size)); clear hw2)
  have t1 : w2.cell? ⟨w.heap.size, 0, none⟩ = some (.pointer (some ⟨b, 0, none⟩)) := (HB1.out.ptr List.mem_cons_self 0).1
  have c7 : w2.cell? ⟨b, 326, none⟩ = some (.int .u64 s.ready) := HB1.out.ln.cell 326 (by omega)
  have c8 : w2.cell? ⟨b, 327, none⟩ = some (.int .u64 s.tail) := HB1.out.ln.cell 327 (by omega)
  go_quiet (fail)
  have HWL := Aside0.mk (pw_below_drewN HW1.out nq)
  go_wp2
  go_ret2
  exact ⟨rfl, HWL.out⟩
theorem Bd.upto {b mb B : Nat} {w w1 w2 : World} {s : LS} {L : List (Nat × Obj)} (h : Bd b mb w s L w1) (k : Below B w1 w2) (hb : b < B) (hm : mb < B) (hw : w.heap.size ≤ B) (hL : ∀ p ∈ L, p.1 < B) : Bd b mb w s L w2 :=
  ⟨h.ln.of (k.block _ hb) (k.block _ (by rw [h.hmb]; exact hm)), ⟨k.os.trans h.far.os, k.tape.trans h.far.tape, k.output.trans h.far.output, Nat.le_trans h.far.size k.size, fun i hi h1 h2 => (k.block i (by omega)).trans (h.far.block i hi h1 h2)⟩, h.hmb, h.hb, h.hm, fun p hp => ⟨(k.block _ (hL p hp)).trans (h.obj p hp).1, (h.obj p hp).2⟩⟩
theorem add_z (g o j : Nat) : (⟨g, o, none⟩ : Addr).add j = ⟨g, o + j, none⟩ := by unfold Addr.add; split <;> simp_all
theorem zero64_list : Try.zeroCells64.toList = (List.range 320).map (fun k => (Ent.at ⟨0, 0, 0, 0, 0⟩ (k % 5))) := by kernel_rfl
theorem zero64_size : Try.zeroCells64.size = 320 := by rw [← Array.length_toList, zero64_list, List.length_map, List.length_range]
theorem zero64_info : (Try.prog.info? 64).map (·.size) = some Try.zeroCells64.size := by rw [zero64_size]; kernel_rfl
theorem zero64_one : Try.zeroCells64.all (·.oneCell') = true := by kernel_rfl
theorem lval_zring (s : LS) : ∀ j, j < 330 → some (lval { s with ring := fun _ => ⟨0, 0, 0, 0, 0⟩ } j) = if 4 ≤ j ∧ j < 4 + Try.zeroCells64.toList.length then Try.zeroCells64.toList[j - 4]? else some (lval s j) := by
  intro j hj
  rw [zero64_list, List.length_map, List.length_range]
  by_cases h1 : 4 ≤ j ∧ j < 4 + 320
  · rw [if_pos h1, List.getElem?_map, List.getElem?_range (by omega)]
    unfold lval
    rw [if_neg (by omega), if_neg (by omega), if_neg (by omega), if_neg (by omega), if_pos (by omega)]
    rfl
  · rw [if_neg h1]
    unfold lval
    by_cases h2 : j < 4
    · have : j = 0 ∨ j = 1 ∨ j = 2 ∨ j = 3 := by omega
      rcases this with rfl | rfl | rfl | rfl <;> rfl
    · rw [if_neg (show ¬ j < 324 by omega), if_neg (show ¬ j < 324 by omega)]
theorem tk_box {w : World} {g : Nat} {p : Option Addr} (h : w.heap[g]? = some (.cells #[.pointer p] 25 (0, 0))) : w.cell? ⟨g, 0, none⟩ = some (.pointer p) := by simp only [World.cell?, h]; rfl
theorem info36z : (Try.prog.info? 36).map (fun i => (i.zero, i.size, i.bytes)) = some (some (.agg #[.int .i64 0, .int .u64 0]), 2, 16) := by kernel_rfl
theorem make_slots (w : World) (l c : Nat) (hl : l ≤ c) (hc : c ≤ 1000) : ∃ C : Array Value, C.size = c * 2 ∧ (Instr.makeSlice 46 (.int .i64 (l : Int)) (.int .i64 (c : Int))).run Try.prog w = .ok (.slice (some ⟨w.heap.size, 0, none⟩) l c) (w.alloc (.cells C 36)) := by
  obtain ⟨i0, hi, hz0, hz1, hz2⟩ := info_parts info36z
  have h := run_make (P := Try.prog) w 46 36 i0 _ Try.underlying46 hi hz0 .i64 .i64 (l : Int) (c : Int) (by omega) (by omega) (by rw [hz2]; omega) (by omega)
  rw [Int.toNat_natCast, Int.toNat_natCast, hz1] at h
  exact ⟨_, size_madeCells _ _, h⟩
section
variable {P : Program}
theorem op_value {ops : Array Oper} {rest : List Oper} {op : Oper} {a : Act} {w : World} {Q : Exit → Act → World → Prop} (hgd : op.guard = none) (v : Value) (hr : (execOp a.eval op).run P w = .ok (.value v) w)
    (h : wpList P ops Q rest (a.put op.dst v) w) : wpList P ops Q (op :: rest) a w := wpList_plain hgd fun K hK => by
  unfold Oper.wp
  rw [hr]
  exact hK _ _ h
theorem store_there {ops : Array Oper} {rest : List Oper} {op : Oper} {a : Act} {w : World} {Q : Exit → Act → World → Prop} (hgd : op.guard = none) (ty : TypeId) (x y : Operand) (ho : op.op = .store ty x y)
    (g o : Nat) (cells : Array Value) (hx : a.eval x = .pointer (some ⟨g, o, none⟩)) (hy : a.eval y = .agg cells)
    (ht : w.there g o cells.size) (hi : (P.info? ty).map (·.size) = some cells.size) (h1 : cells.all (·.oneCell') = true)
    (h : ∀ w', w' = w.setCells g o cells.toList → wpList P ops Q rest (a.put op.dst undef) w') : wpList P ops Q (op :: rest) a w :=
  wpList_store_mid hgd ty x y ho g o cells hx hy ht hi h1 (h _ rfl)
end
def slL (L : List (Int × Past)) : List (Int × Int) := L.map (fun x => (x.2.n, x.2.g))
theorem slL_len (L : List (Int × Past)) : (slL L).length = L.length := List.length_map _
theorem take_succ_slots {α : Type} (l : List α) (m : Nat) (h : m < l.length) : l.take (m + 1) = l.take m ++ [l[m]] := List.take_succ_eq_append_getElem h
theorem slL_take {L : List (Int × Past)} {m : Nat} (h : m < L.length) {x : Int × Past} (hx : L[m] = x) : (slL L).take (m + 1) = (slL L).take m ++ [(x.2.n, x.2.g)] := by
  unfold slL
  rw [← List.map_take, ← List.map_take, List.take_succ_eq_append_getElem h, List.map_append, hx]; rfl
theorem sf_bd {b mb Bn Bl : Nat} {w w1 : World} {s : LS} (h : Bd b mb w s [(Bn, .cells #[.map (some mb)] 65), (Bl, .cells #[.pointer (some ⟨b, 0, none⟩)] 25)] w1) (hub : U64 s.base) {L : List (Int × Past)} (hL : Lst s.D L) (hu : ∀ x ∈ L, U64 x.1)
    (hs : L.Pairwise (fun x y => dist s.base x.1 < dist s.base y.1)) (hlen : L.length < 1000000) :
    Calls Try.prog 37 #[.func (.func 48) #[] #[.pointer (some ⟨Bn, 0, none⟩)], .func (.func 39) #[] #[.pointer (some ⟨Bl, 0, none⟩)]] w1 fun e w' =>
      ∃ v, e = .returned v ∧ w'.ownsRow w1.heap.size 22 1 v L.length (L.map (fun x => Value.int .u64 x.1)) ∧ Below w1.heap.size w1 w' := by
  obtain ⟨A, hA, hv⟩ := h.ln.blk
  refine sortedFunc_calls s.base b Bl Bn mb s.n s.D L hL hlen hu hs hub w1 (h.ptr List.mem_cons_self 0).1 (h.hmb ▸ h.ln.map) (h.obj (Bl, _) (List.mem_cons_of_mem _ List.mem_cons_self)).1 ⟨A, hA, ?_⟩
  exact hv.2 324 (by omega)
set_option maxRecDepth 100000 in
set_option maxHeartbeats 8000000 in
theorem Reset_calls (b : Nat) (s : LS) (hc : 0 < s.credit) (hc64 : s.credit ≤ 64) (he : s.ready = s.tail) (hp : Pw s.size) (hub : U64 s.base) (L : List (Int × Past)) (hL : Lst s.D L) (hu : ∀ x ∈ L, U64 x.1)
    (hs : L.Pairwise (fun x y => dist s.base x.1 < dist s.base y.1)) (P : List (Int × Int)) (hPm : IntKind.u64.wrap (s.ready - s.head) = (P.length : Int)) (hP : ∀ (i : Nat) (p : Int × Int), P[i]? = some p → (s.ring (pl s (IntKind.u64.wrap (s.head + i)))).n = p.1 ∧ (s.ring (pl s (IntKind.u64.wrap (s.head + i)))).g = p.2)
    (hlen : (L.length : Int) ≤ s.credit) (hlen2 : (L.length + P.length : Int) ≤ 64) (w : World) (h : Ln w b s) :
    Calls Try.prog 18 #[.pointer (some ⟨b, 0, none⟩)] w fun e w' => ∃ ga, e = .returned (.tuple #[.slice (some ⟨ga, 0, none⟩) (L.length + P.length) (L.length + P.length), .int .i64 0]) ∧
      RowS w' ga (L.length + P.length) (L.map (fun x => (x.2.n, x.2.g)) ++ P) ∧ w.heap.size ≤ ga ∧ Ln w' b (resetS s) ∧ Far b s.mb w w' := by
  have d1 : decide (s.credit > 0) = true := decide_eq_true hc
  have d2 : (s.ready != s.tail) = false := by simp [he]
  have HB0 := Aside0.mk ((Bd.start h).alloc (.cells #[.pointer (some ⟨b, 0, none⟩)] 25))
  have HC64 := Aside0.mk hc64
  have HE := Aside0.mk he
  have HP := Aside0.mk hp
  have HUB := Aside0.mk hub
  have HL := Aside0.mk (And.intro hL (And.intro hu hs))
  have HPM := Aside0.mk hPm
  have HPP := Aside0.mk hP
  have HLEN := Aside0.mk (And.intro hlen hlen2)
  clear h hc hc64 he hp hub hL hu hs hPm hP hlen hlen2
  go_enter Try.func18, Try.ntmps18
  go_upto_region 1 with fail
  generalize w.alloc (.cells #[.pointer (some ⟨b, 0, none⟩)] 25) = w1 at HB0 ⊢
  have t0 : w1.cell? ⟨w.heap.size, 0, none⟩ = some (.pointer (some ⟨b, 0, none⟩)) := (HB0.out.ptr List.mem_cons_self 0).1
  go_upto_region 3 with (go_at_call 34; refine (is_calls b s _ HB0.out.ln).mono ?_; rintro e1 w2 ⟨rfl, hw2⟩; have HB1 := Aside0.mk (HB0.out.below hw2); clear hw2)
  have t1 : w2.cell? ⟨w.heap.size, 0, none⟩ = some (.pointer (some ⟨b, 0, none⟩)) := (HB1.out.ptr List.mem_cons_self 0).1
  have c7 : w2.cell? ⟨b, 326, none⟩ = some (.int .u64 s.ready) := HB1.out.ln.cell 326 (by omega)
  have c8 : w2.cell? ⟨b, 327, none⟩ = some (.int .u64 s.tail) := HB1.out.ln.cell 327 (by omega)
  go_quiet (fail)
  have HB2 : Aside0 (Bd b s.mb w s [(w.heap.size, .cells #[.pointer (some ⟨b, 0, none⟩)] 25)] (w2.drewN nq)) := ⟨HB1.out.below (pw_below_drewN (Below.refl _ _) nq)⟩
  clear HB0 HB1 t0 t1 c7 c8 d1 d2
  generalize w2.drewN nq = w3 at HB2 ⊢
  have t1 : w3.cell? ⟨w.heap.size, 0, none⟩ = some (.pointer (some ⟨b, 0, none⟩)) := (HB2.out.ptr List.mem_cons_self 0).1
  have c10 : w3.cell? ⟨b, 329, none⟩ = some (.map (some s.mb)) := HB2.out.ln.cell 329 (by omega)
  go_upto_region 6 with (first | (go_at_call 38; refine (keys_calls s.mb _).mono ?_; rintro e1 w4 ⟨rfl, hw4⟩; have HB3 := Aside0.mk (HB2.out.alloc (.cells #[.map (some s.mb)] 65)); rw [← hw4] at HB3; clear hw4) | (go_at_call 37; refine (sf_bd HB3.out HUB.out HL.out.1 HL.out.2.1 HL.out.2.2 (by have := HLEN.out; have := HC64.out; omega)).mono ?_; rintro e2 w5 ⟨v, rfl, hrow, hb5⟩; have HB4 := Aside0.mk (And.intro (HB3.out.below hb5) (And.intro hrow hb5)); clear hrow hb5))
  have hrow0 := HB4.out.2.1
  rw [show L.map (fun x => Value.int .u64 x.1) = (L.map Prod.fst).map (fun x => Value.int .u64 x) by rw [List.map_map]; rfl] at hrow0
  obtain ⟨A, cA, rfl, hcA, hrd⟩ := own_reads_of_le (enc := fun x => Value.int .u64 x) (d := (0 : Int)) hrow0
  have HKC : Aside0 (Kd.C (Kd.int .u64) w5 A L.length (L.map Prod.fst)) := ⟨Kd.C_of_reads hrd⟩
  have HB5 : Aside0 (Bd b s.mb w s [(w.heap.size, .cells #[.pointer (some ⟨b, 0, none⟩)] 25)] w5) := ⟨by
    have h := HB4.out.1
    exact ⟨h.ln, h.far, h.hmb, h.hb, h.hm, fun p hp => h.obj p (List.mem_cons_of_mem _ hp)⟩⟩
  clear hrow0 hrd hcA HB4 HB3 HB2 t1 c10
  obtain ⟨cn, hcn⟩ : ∃ cn : Nat, s.credit = (cn : Int) := ⟨s.credit.toNat, by have := HLEN.out; omega⟩
  have HCN := Aside0.mk hcn
  have hncn : L.length ≤ cn := by have := HLEN.out; omega
  have hcn64 : cn ≤ 64 := by have := HC64.out; omega
  have HNC := Aside0.mk (And.intro hncn hcn64)
  have t1 : w5.cell? ⟨w.heap.size, 0, none⟩ = some (.pointer (some ⟨b, 0, none⟩)) := (HB5.out.ptr List.mem_cons_self 0).1
  have c0 : w5.cell? ⟨b, 0, none⟩ = some (.int .i64 (cn : Int)) := by rw [← hcn]; exact HB5.out.ln.cell 0 (by omega)
  obtain ⟨C0, hC0, hmk⟩ := make_slots w5 L.length cn hncn (by omega)
  clear hcn hncn hcn64
  have HRS : Aside0 (Below w5.heap.size w5 (w5.alloc (.cells C0 36)) ∧ RowS (w5.alloc (.cells C0 36)) w5.heap.size cn ((slL L).take 0)) := ⟨(Below.refl _ _).alloc (Nat.le_refl _) _, RowS.start w5 C0 cn hC0⟩
  go_upto_region 7 with fail
  clear hmk c0 t1 hC0
  generalize w5.alloc (.cells C0 36) = w6 at HRS ⊢
  obtain ⟨go, hgo⟩ : ∃ g, w5.heap.size = g := ⟨_, rfl⟩
  have HGO := Aside0.mk hgo
  have HWS : Aside0 (w.heap.size < go) := ⟨by rw [← hgo]; exact (Array.getElem?_eq_some_iff.1 (HB5.out.obj (w.heap.size, _) List.mem_cons_self).1).1⟩
  rw [hgo] at HRS ⊢
  clear hgo
  go_wp2_with fail
  go_loopw [6, 7, 41] (fun _ _ i wr => ∃ m : Nat, i = .int .i64 (m : Int) ∧ Aside0 (m ≤ L.length ∧ Below w5.heap.size w5 wr ∧ RowS wr go cn ((slL L).take m))) (fun _ _ i _ => L.length - (intOf i).toNat)
  case atStart => exact ⟨0, rfl, ⟨Nat.zero_le _, by rw [HGO.out]; exact HRS.out.1, HRS.out.2⟩⟩
  case round =>
    clear HRS
    obtain ⟨m, rfl, HR⟩ := hrel
    by_cases h1 : m < L.length
    · have e1 : decide ((m : Int) < (L.length : Int)) = true := decide_eq_true (by omega)
      have e2 : decide (m < L.length) = true := decide_eq_true h1
      have H1 := Aside0.mk h1
      have HBR := Aside0.mk (HB5.out.below HR.out.2.1)
      obtain ⟨x, hx⟩ : ∃ x, L[m] = x := ⟨_, rfl⟩
      have HX := Aside0.mk hx
      have hmem : x ∈ L := by rw [← hx]; exact List.getElem_mem h1
      obtain ⟨ad, rfl, q0⟩ := Kd.at_int (Kd.C_below HKC.out HR.out.2.1) (m : Int) (by omega) (by omega)
      have ek : rd (L.map Prod.fst) (m : Int) = x.1 := by
        unfold rd
        rw [Int.toNat_natCast, List.getD_eq_getElem?_getD, List.getElem?_map, List.getElem?_eq_getElem h1, hx]; rfl
      rw [ek, Int.toNat_natCast] at q0
      have t1 : wr.cell? ⟨w.heap.size, 0, none⟩ = some (.pointer (some ⟨b, 0, none⟩)) := (HBR.out.ptr List.mem_cons_self 0).1
      have c10 : wr.cell? ⟨b, 329, none⟩ = some (.map (some s.mb)) := HBR.out.ln.cell 329 (by omega)
      have hlk : (Instr.lookup 65 (.map (some s.mb)) (.int .u64 x.1) false).run Try.prog wr = .ok (.agg #[.int .i64 x.2.n, .int .u64 x.2.g, .bool x.2.held]) wr := by
        have h := (own_look HBR.out.ln.map (HL.out.2.1 x hmem)).2
        have hlo : look s.D x.1 = some x.2 := by
          rw [HL.out.1.look]
          obtain ⟨_, _, _, hn⟩ := HL.out.1
          exact (lookL_some hn).2 hmem
        rw [hlo] at h
        exact h
      have hx0 : (0 : Int) ≤ (m : Int) := by omega
      have hx1 : (m : Int) < (L.length : Int) := by omega
      have hw : wrap64 ((m : Int) + 1) = (m : Int) + 1 := by have := HNC.out; unfold wrap64; omega
      have HH : Aside0 (L.length - ((m : Int) + 1).toNat < L.length - ((m : Int)).toNat) := ⟨by omega⟩
      clear hx hmem ek
      go_wp2_with (first | ((with_reducible refine gate_ (.field 79 (.tmp 53) 0) rfl ?_); refine op_value rfl (.agg (aSlot x.2.n x.2.g)) (by kernel_rfl) ?_) | ((with_reducible refine gate_store (t := 36) (p := 55) rfl ?_); refine store_there rfl 36 (.tmp 55) (.tmp 54) rfl go (m * 2) (aSlot x.2.n x.2.g) (by first | rfl | simp) rfl (HR.out.2.2.there (m * 2) 2 (by have := H1.out; have := HNC.out; omega)) (by kernel_rfl) (by kernel_rfl) ?_; intro w9 hw9; have HW9 := Aside0.mk hw9; clear hw9))
      go_roundw
      case rel => exact ⟨m + 1, by go_num, ⟨by have := H1.out; omega, by rw [HW9.out]; exact below_setCells (by rw [HGO.out]; exact Nat.le_refl _) _ _ _ HR.out.2.1, by
        rw [HW9.out]
        have h3 := HR.out.2.2.push [(x.2.n, x.2.g)] (by rw [List.length_take, slL_len]; have := H1.out; have := HNC.out; simp; omega)
        have h4 : ((slL L).take m).length = m := by rw [List.length_take, slL_len]; have := H1.out; omega
        rw [h4] at h3
        rw [slL_take H1.out HX.out]
        exact h3⟩⟩
      case measure => simp only [hw]; exact HH.out
    · have e1 : decide ((m : Int) < (L.length : Int)) = false := decide_eq_false (by omega)
      have e2 : decide (m < L.length) = false := decide_eq_false h1
      have hm : m = L.length := by have := HR.out.1; omega
      have HR1 : Aside0 (Below w5.heap.size w5 wr ∧ RowS wr go cn (slL L)) := ⟨HR.out.2.1, by
        have h2 := HR.out.2.2
        rw [List.take_of_length_le (by rw [slL_len]; omega)] at h2
        exact h2⟩
      clear HR hm
      obtain ⟨wo, hwo⟩ : ∃ q, q = wr := ⟨_, rfl⟩
      subst hwo
      have HB6 := Aside0.mk (HB5.out.below HR1.out.1)
      clear HKC HB5
      have t1 : wo.cell? ⟨w.heap.size, 0, none⟩ = some (.pointer (some ⟨b, 0, none⟩)) := (HB6.out.ptr List.mem_cons_self 0).1
      have c6 : wo.cell? ⟨b, 325, none⟩ = some (.int .u64 s.head) := HB6.out.ln.cell 325 (by omega)
      have c7 : wo.cell? ⟨b, 326, none⟩ = some (.int .u64 s.ready) := HB6.out.ln.cell 326 (by omega)
      have hpl : P.length ≤ 64 := by have := HLEN.out; omega
      have HPL := Aside0.mk hpl
      have HBT : Aside0 (w.heap.size < wo.heap.size) := ⟨(Array.getElem?_eq_some_iff.1 (HB6.out.obj (w.heap.size, _) List.mem_cons_self).1).1⟩
      have HBL : Aside0 (b < wo.heap.size) := ⟨HB6.out.ln.lt⟩
      have hPm := HPM.out
      have hw2 : IntKind.i64.wrap (P.length : Int) = (P.length : Int) := by rw [IntKind.wrap_i64]; omega
      obtain ⟨C1, hC1, hmk⟩ := make_slots wo.drew P.length P.length (Nat.le_refl _) (by omega)
      have HC1 := Aside0.mk hC1
      clear hpl hC1
      go_upto_region 12 with fail
      clear e1 e2 h1
      refine wp_region_held_drew (S := fun w' => Below wo.heap.size wo w') (by kernel_rfl) (pw_below_drewN (Below.refl _ _) 1) (fun hHeld => ?_)
      refine take_at (i := 0) (v := _) 57 rfl rfl (by kernel_rfl) (by kernel_rfl) (by kernel_rfl) (fun _ _ _ h => h) (Or.inl ⟨by rfl, fun w' hW => by have hq0 := (hW.cell HBT.out).trans t1; have hq1 := (hW.cell HBL.out).trans c6; have hq2 := (hW.cell HBL.out).trans c7; first | (go_simp; done) | (go_simp; with_reducible rfl) | (go_simp; rfl)⟩) hHeld ?_
      try simp only [Act.put, List.setIfInBounds_toArray, List.set_cons_zero, List.set_cons_succ]
      refine take_at (i := 1) (v := _) 58 rfl rfl (by kernel_rfl) (by kernel_rfl) (by kernel_rfl) (fun _ _ _ h => h) (Or.inl ⟨by rfl, fun w' hW => by have hq0 := (hW.cell HBT.out).trans t1; have hq1 := (hW.cell HBL.out).trans c6; have hq2 := (hW.cell HBL.out).trans c7; first | (go_simp; done) | (go_simp; with_reducible rfl) | (go_simp; rfl)⟩) hHeld ?_
      try simp only [Act.put, List.setIfInBounds_toArray, List.set_cons_zero, List.set_cons_succ]
      refine take_at (i := 2) (v := _) 59 rfl rfl (by kernel_rfl) (by kernel_rfl) (by kernel_rfl) (fun _ _ _ h => h) (Or.inl ⟨by rfl, fun w' hW => by have hq0 := (hW.cell HBT.out).trans t1; have hq1 := (hW.cell HBL.out).trans c6; have hq2 := (hW.cell HBL.out).trans c7; first | (go_simp; done) | (go_simp; with_reducible rfl) | (go_simp; rfl)⟩) hHeld ?_
      try simp only [Act.put, List.setIfInBounds_toArray, List.set_cons_zero, List.set_cons_succ]
      refine take_at (i := 3) (v := _) 60 rfl rfl (by kernel_rfl) (by kernel_rfl) (by kernel_rfl) (fun _ _ _ h => h) (Or.inl ⟨by rfl, fun w' hW => by have hq0 := (hW.cell HBT.out).trans t1; have hq1 := (hW.cell HBL.out).trans c6; have hq2 := (hW.cell HBL.out).trans c7; first | (go_simp; done) | (go_simp; with_reducible rfl) | (go_simp; rfl)⟩) hHeld ?_
      try simp only [Act.put, List.setIfInBounds_toArray, List.set_cons_zero, List.set_cons_succ]
      refine take_at (i := 4) (v := _) 61 rfl rfl (by kernel_rfl) (by kernel_rfl) (by kernel_rfl) (fun _ _ _ h => h) (Or.inl ⟨by rfl, fun w' hW => by have hq0 := (hW.cell HBT.out).trans t1; have hq1 := (hW.cell HBL.out).trans c6; have hq2 := (hW.cell HBL.out).trans c7; first | (go_simp; done) | (go_simp; with_reducible rfl) | (go_simp; rfl)⟩) hHeld ?_
      try simp only [Act.put, List.setIfInBounds_toArray, List.set_cons_zero, List.set_cons_succ]
      refine take_at (i := 5) (v := _) 62 rfl rfl (by kernel_rfl) (by kernel_rfl) (by kernel_rfl) (fun _ _ _ h => h) (Or.inl ⟨by rfl, fun w' hW => by have hq0 := (hW.cell HBT.out).trans t1; have hq1 := (hW.cell HBL.out).trans c6; have hq2 := (hW.cell HBL.out).trans c7; first | (go_simp; done) | (go_simp; with_reducible rfl) | (go_simp; rfl)⟩) hHeld ?_
      try simp only [Act.put, List.setIfInBounds_toArray, List.set_cons_zero, List.set_cons_succ]
      refine take_at (i := 6) (v := _) 63 rfl rfl (by kernel_rfl) (by kernel_rfl) (by kernel_rfl) (fun _ _ _ h => h) (Or.inl ⟨by rfl, fun w' hW => by have hq0 := (hW.cell HBT.out).trans t1; have hq1 := (hW.cell HBL.out).trans c6; have hq2 := (hW.cell HBL.out).trans c7; first | (go_simp; done) | (go_simp; with_reducible rfl) | (go_simp; rfl)⟩) hHeld ?_
      try simp only [Act.put, List.setIfInBounds_toArray, List.set_cons_zero, List.set_cons_succ]
      refine take_at (i := 7) (v := _) 64 rfl rfl (by kernel_rfl) (by kernel_rfl) (by kernel_rfl) (fun _ _ _ h => h) (Or.inl ⟨by rfl, fun w' hW => by have hq0 := (hW.cell HBT.out).trans t1; have hq1 := (hW.cell HBL.out).trans c6; have hq2 := (hW.cell HBL.out).trans c7; first | (go_simp; done) | (go_simp; with_reducible rfl) | (go_simp; rfl)⟩) hHeld ?_
      try simp only [Act.put, List.setIfInBounds_toArray, List.set_cons_zero, List.set_cons_succ]
      refine take_at (i := 8) (v := _) 65 rfl rfl (by kernel_rfl) (by kernel_rfl) (by kernel_rfl) (fun _ _ _ h => h) (Or.inl ⟨by rfl, fun w' hW => by have hq0 := (hW.cell HBT.out).trans t1; have hq1 := (hW.cell HBL.out).trans c6; have hq2 := (hW.cell HBL.out).trans c7; first | (go_simp; done) | (go_simp; with_reducible rfl) | (go_simp; rfl)⟩) hHeld ?_
      try simp only [Act.put, List.setIfInBounds_toArray, List.set_cons_zero, List.set_cons_succ]
      refine take_at (i := 9) (v := _) 66 rfl rfl (by kernel_rfl) (by kernel_rfl) (by kernel_rfl) (fun _ _ _ h => h) (Or.inl ⟨by rfl, fun w' hW => by have hq0 := (hW.cell HBT.out).trans t1; have hq1 := (hW.cell HBL.out).trans c6; have hq2 := (hW.cell HBL.out).trans c7; first | (go_simp; done) | (go_simp; with_reducible rfl) | (go_simp; rfl)⟩) hHeld ?_
      try simp only [Act.put, List.setIfInBounds_toArray, List.set_cons_zero, List.set_cons_succ]
      clear hHeld
      refine wpAnyH_ready (rs := [10]) (by kernel_rfl) (by simp) ?_
      refine AllReadyH.cons rfl (fun K hK => ?_) AllReadyH.nil
      go_simp
      have HRT : Aside0 (Below wo.heap.size wo (wo.drew.alloc (.cells C1 36)) ∧ RowS (wo.drew.alloc (.cells C1 36)) wo.heap.size P.length (P.take 0)) := ⟨(Below.refl _ _).drew.alloc (Nat.le_refl _) _, RowS.start wo.drew C1 P.length HC1.out⟩
      try change K _ (wo.drew.alloc (.cells C1 36))
      generalize wo.drew.alloc (.cells C1 36) = w7 at HRT ⊢
      refine hK.out _ _ HRT.out.1 (fun hHeld => ?_)
      clear hK K
      try simp only [Act.put, List.setIfInBounds_toArray, List.set_cons_zero, List.set_cons_succ]
      refine take_at (i := 11) (v := _) 8 rfl rfl (by kernel_rfl) (by kernel_rfl) (by kernel_rfl) (fun _ _ _ h => h) (Or.inl ⟨by rfl, fun w' hW => by have hq0 := (hW.cell HBT.out).trans t1; have hq1 := (hW.cell HBL.out).trans c6; have hq2 := (hW.cell HBL.out).trans c7; first | (go_simp; done) | (go_simp; with_reducible rfl) | (go_simp; rfl)⟩) hHeld ?_
      try simp only [Act.put, List.setIfInBounds_toArray, List.set_cons_zero, List.set_cons_succ]
      refine wpAnyH_done (by kernel_rfl) ?_ _
      clear hHeld
      clear t1 c6 c7 hPm hw2 hmk
      have HWW : Aside0 (Below w5.heap.size w5 w7) := ⟨HR1.out.1.trans (HRT.out.1.mono HR1.out.1.size)⟩
      have HRO : Aside0 (RowS w7 go cn (slL L)) := ⟨HR1.out.2.below HRT.out.1⟩
      have HB7 := Aside0.mk (HB6.out.below HRT.out.1)
      have HRR : Aside0 (RowS w7 wo.heap.size P.length (P.take 0)) := ⟨HRT.out.2⟩
      have HGG : Aside0 (go < wo.heap.size) := ⟨HR1.out.2.lt⟩
      clear HR1 HRT HB6
      generalize wo.heap.size = gr at HRR HGG HBT HBL ⊢
      go_wp2_with fail
      go_loopw [9, 70] (fun _ i wr => ∃ m : Nat, i = .int .i64 (m : Int) ∧ Aside0 (m ≤ P.length ∧ Below gr w7 wr ∧ RowS wr gr P.length (P.take m))) (fun _ i _ => P.length - (intOf i).toNat)
      case atStart => exact ⟨0, rfl, ⟨Nat.zero_le _, Below.refl _ _, HRR.out⟩⟩
      case round =>
        clear HRR
        obtain ⟨m2, rfl, HR⟩ := hrel
        by_cases h1 : m2 < P.length
        · have e1 : decide ((m2 : Int) < (P.length : Int)) = true := decide_eq_true (by omega)
          have e2 : decide (m2 < P.length) = true := decide_eq_true h1
          have H1 := Aside0.mk h1
          obtain ⟨p, hp⟩ : ∃ p, P[m2] = p := ⟨_, rfl⟩
          have HPX := Aside0.mk hp
          obtain ⟨i0, hi0⟩ : ∃ i0, pl s (IntKind.u64.wrap (s.head + (m2 : Int))) = i0 := ⟨_, rfl⟩
          have hi0lt : i0 < 64 := by rw [← hi0]; exact pl_lt HP.out _
          have HIL := Aside0.mk hi0lt
          have hring := HPP.out m2 p (by rw [List.getElem?_eq_getElem h1, hp])
          rw [hi0] at hring
          have hU : U64 (IntKind.u64.wrap (s.head + (m2 : Int))) := by rw [IntKind.wrap_u64]; unfold U64; omega
          have HA : Aside0 (∀ w, Ln w b s → Calls Try.prog 35 #[.pointer (some ⟨b, 0, none⟩), .int .u64 (IntKind.u64.wrap (s.head + (m2 : Int)))] w fun e w' => e = .returned (.pointer (some ⟨b, 4 + i0 * 5, none⟩)) ∧ ∃ nd, w' = w.drewN nd) := ⟨fun w hw => by
            have h := at_callsD b s _ hU HP.out w hw
            rw [← hi0]
            exact h⟩
          have HBR := Aside0.mk (HB7.out.ln)
          have t1 : wr.cell? ⟨w.heap.size, 0, none⟩ = some (.pointer (some ⟨b, 0, none⟩)) := (HR.out.2.1.cell HBT.out).trans (HB7.out.ptr List.mem_cons_self 0).1
          have c6 : wr.cell? ⟨b, 325, none⟩ = some (.int .u64 s.head) := (HR.out.2.1.cell HBL.out).trans (HB7.out.ln.cell 325 (by omega))
          obtain ⟨x0, x1', x2', x3, x4⟩ := HB7.out.ecells hi0lt
          rw [hring.1] at x1'
          rw [hring.2] at x2'
          have x1 : wr.cell? ⟨b, 4 + i0 * 5 + 1, none⟩ = some (.int .i64 p.1) := (HR.out.2.1.cell HBL.out).trans x1'
          have x2 : wr.cell? ⟨b, 4 + i0 * 5 + 2, none⟩ = some (.int .u64 p.2) := (HR.out.2.1.cell HBL.out).trans x2'
          have hpl := HPL.out
          have hw3 : IntKind.u64.wrap (m2 : Int) = (m2 : Int) := by rw [IntKind.wrap_u64]; omega
          have hw : wrap64 ((m2 : Int) + 1) = (m2 : Int) + 1 := by unfold wrap64; omega
          have HH : Aside0 (P.length - ((m2 : Int) + 1).toNat < P.length - ((m2 : Int)).toNat) := ⟨by omega⟩
          have hx0 : (0 : Int) ≤ (m2 : Int) := by omega
          have hx1 : (m2 : Int) < (P.length : Int) := by omega
          have HGR : Aside0 (gr < wr.heap.size) := ⟨HR.out.2.2.lt⟩
          have HBT2 : Aside0 (w.heap.size < wr.heap.size) := ⟨by have := HBT.out; have := HGR.out; omega⟩
          have HBL2 : Aside0 (b < wr.heap.size) := ⟨by have := HBL.out; have := HGR.out; omega⟩
          have HLN : Aside0 (Ln wr b s) := ⟨by
            have h := HB7.out.ln
            exact h.of (HR.out.2.1.block _ HBL.out) (HR.out.2.1.block _ (by have := HB7.out.hm; have := HB7.out.hmb; have := HBT.out; omega))⟩
          clear hp hi0 hi0lt hring hU x0 x1' x2' x3 x4 hpl
          go_upto_region 16 with fail
          refine wp_region_held_drew (S := fun w' => Below gr wr w') (by kernel_rfl) (pw_below_drewN (Below.refl _ _) 1) (fun hHeld => ?_)
          refine take_at (i := 0) (v := _) 73 rfl rfl (by kernel_rfl) (by kernel_rfl) (by kernel_rfl) (fun _ _ _ h => h) (Or.inl ⟨by rfl, fun w' hW => by have hq0 := (hW.cell HBT.out).trans t1; have hq1 := (hW.cell HBL.out).trans c6; have hq2 := (hW.cell HBL.out).trans x1; have hq3 := (hW.cell HBL.out).trans x2; first | (go_simp; done) | (go_simp; with_reducible rfl) | (go_simp; rfl)⟩) hHeld ?_
          try simp only [Act.put, List.setIfInBounds_toArray, List.set_cons_zero, List.set_cons_succ]
          refine take_at (i := 1) (v := _) 74 rfl rfl (by kernel_rfl) (by kernel_rfl) (by kernel_rfl) (fun _ _ _ h => h) (Or.inl ⟨by rfl, fun w' hW => by have hq0 := (hW.cell HBT.out).trans t1; have hq1 := (hW.cell HBL.out).trans c6; have hq2 := (hW.cell HBL.out).trans x1; have hq3 := (hW.cell HBL.out).trans x2; first | (go_simp; done) | (go_simp; with_reducible rfl) | (go_simp; rfl)⟩) hHeld ?_
          try simp only [Act.put, List.setIfInBounds_toArray, List.set_cons_zero, List.set_cons_succ]
          refine take_at (i := 2) (v := _) 75 rfl rfl (by kernel_rfl) (by kernel_rfl) (by kernel_rfl) (fun _ _ _ h => h) (Or.inl ⟨by rfl, fun w' hW => by have hq0 := (hW.cell HBT.out).trans t1; have hq1 := (hW.cell HBL.out).trans c6; have hq2 := (hW.cell HBL.out).trans x1; have hq3 := (hW.cell HBL.out).trans x2; first | (go_simp; done) | (go_simp; with_reducible rfl) | (go_simp; rfl)⟩) hHeld ?_
          try simp only [Act.put, List.setIfInBounds_toArray, List.set_cons_zero, List.set_cons_succ]
          refine take_at (i := 3) (v := _) 76 rfl rfl (by kernel_rfl) (by kernel_rfl) (by kernel_rfl) (fun _ _ _ h => h) (Or.inl ⟨by rfl, fun w' hW => by have hq0 := (hW.cell HBT.out).trans t1; have hq1 := (hW.cell HBL.out).trans c6; have hq2 := (hW.cell HBL.out).trans x1; have hq3 := (hW.cell HBL.out).trans x2; first | (go_simp; done) | (go_simp; with_reducible rfl) | (go_simp; rfl)⟩) hHeld ?_
          try simp only [Act.put, List.setIfInBounds_toArray, List.set_cons_zero, List.set_cons_succ]
          refine take_at (i := 4) (v := _) 77 rfl rfl (by kernel_rfl) (by kernel_rfl) (by kernel_rfl) (fun _ _ _ h => h) (Or.inl ⟨by rfl, fun w' hW => by have hq0 := (hW.cell HBT.out).trans t1; have hq1 := (hW.cell HBL.out).trans c6; have hq2 := (hW.cell HBL.out).trans x1; have hq3 := (hW.cell HBL.out).trans x2; first | (go_simp; done) | (go_simp; with_reducible rfl) | (go_simp; rfl)⟩) hHeld ?_
          try simp only [Act.put, List.setIfInBounds_toArray, List.set_cons_zero, List.set_cons_succ]
          refine take_at (i := 5) (v := _) 78 rfl rfl (by kernel_rfl) (by kernel_rfl) (by kernel_rfl) (fun _ _ _ h => h) (Or.inl ⟨by rfl, fun w' hW => by have hq0 := (hW.cell HBT.out).trans t1; have hq1 := (hW.cell HBL.out).trans c6; have hq2 := (hW.cell HBL.out).trans x1; have hq3 := (hW.cell HBL.out).trans x2; first | (go_simp; done) | (go_simp; with_reducible rfl) | (go_simp; rfl)⟩) hHeld ?_
          try simp only [Act.put, List.setIfInBounds_toArray, List.set_cons_zero, List.set_cons_succ]
          refine take_at (i := 6) (v := _) 79 rfl rfl (by kernel_rfl) (by kernel_rfl) (by kernel_rfl) (fun _ _ _ h => h) (Or.inl ⟨by rfl, fun w' hW => by have hq0 := (hW.cell HBT.out).trans t1; have hq1 := (hW.cell HBL.out).trans c6; have hq2 := (hW.cell HBL.out).trans x1; have hq3 := (hW.cell HBL.out).trans x2; first | (go_simp; done) | (go_simp; with_reducible rfl) | (go_simp; rfl)⟩) hHeld ?_
          try simp only [Act.put, List.setIfInBounds_toArray, List.set_cons_zero, List.set_cons_succ]
          refine take_at (i := 7) (v := _) 80 rfl rfl (by kernel_rfl) (by kernel_rfl) (by kernel_rfl) (fun _ _ _ h => h) (Or.inl ⟨by rfl, fun w' hW => by have hq0 := (hW.cell HBT.out).trans t1; have hq1 := (hW.cell HBL.out).trans c6; have hq2 := (hW.cell HBL.out).trans x1; have hq3 := (hW.cell HBL.out).trans x2; first | (go_simp; done) | (go_simp; with_reducible rfl) | (go_simp; rfl)⟩) hHeld ?_
          try simp only [Act.put, List.setIfInBounds_toArray, List.set_cons_zero, List.set_cons_succ]
          refine take_at (i := 8) (v := _) 81 rfl rfl (by kernel_rfl) (by kernel_rfl) (by kernel_rfl) (fun _ _ _ h => h) (Or.inl ⟨by rfl, fun w' hW => by have hq0 := (hW.cell HBT.out).trans t1; have hq1 := (hW.cell HBL.out).trans c6; have hq2 := (hW.cell HBL.out).trans x1; have hq3 := (hW.cell HBL.out).trans x2; first | (go_simp; done) | (go_simp; with_reducible rfl) | (go_simp; rfl)⟩) hHeld ?_
          try simp only [Act.put, List.setIfInBounds_toArray, List.set_cons_zero, List.set_cons_succ]
          refine take_at (i := 9) (v := _) 82 rfl rfl (by kernel_rfl) (by kernel_rfl) (by kernel_rfl) (fun _ _ _ h => h) (Or.inl ⟨by rfl, fun w' hW => by have hq0 := (hW.cell HBT.out).trans t1; have hq1 := (hW.cell HBL.out).trans c6; have hq2 := (hW.cell HBL.out).trans x1; have hq3 := (hW.cell HBL.out).trans x2; first | (go_simp; done) | (go_simp; with_reducible rfl) | (go_simp; rfl)⟩) hHeld ?_
          try simp only [Act.put, List.setIfInBounds_toArray, List.set_cons_zero, List.set_cons_succ]
          have N0 := Aside0.mk hHeld
          refine wpAnyH_ready (rs := [10]) (by kernel_rfl) (by simp) ?_
          refine AllReadyH.cons rfl (fun K hK => ?_) AllReadyH.nil
          go_simp
          go_wp2_with (first | (go_at_call 35; refine (HA.out _ (HLN.out.of (N0.out.block _ HBL.out) (N0.out.block _ (by have := HB7.out.hm; have := HB7.out.hmb; have := HBT.out; omega)))).mono ?_; rintro e1 w2 ⟨rfl, ⟨nd, rfl⟩⟩))
          clear hHeld
          refine hK.out _ _ (pw_below_drewN (Below.refl _ _) (1 + nd)) (fun hHeld => ?_)
          clear hK K
          try simp only [Act.put, List.setIfInBounds_toArray, List.set_cons_zero, List.set_cons_succ]
          refine take_at (i := 11) (v := _) 84 rfl rfl (by kernel_rfl) (by kernel_rfl) (by kernel_rfl) (fun _ _ _ h => h) (Or.inl ⟨by rfl, fun w' hW => by have hq0 := (hW.cell HBT.out).trans t1; have hq1 := (hW.cell HBL.out).trans c6; have hq2 := (hW.cell HBL.out).trans x1; have hq3 := (hW.cell HBL.out).trans x2; first | (go_simp; done) | (go_simp; with_reducible rfl) | (go_simp; rfl)⟩) hHeld ?_
          try simp only [Act.put, List.setIfInBounds_toArray, List.set_cons_zero, List.set_cons_succ]
          refine take_at (i := 12) (v := _) 85 rfl rfl (by kernel_rfl) (by kernel_rfl) (by kernel_rfl) (fun _ _ _ h => h) (Or.inl ⟨by rfl, fun w' hW => by have hq0 := (hW.cell HBT.out).trans t1; have hq1 := (hW.cell HBL.out).trans c6; have hq2 := (hW.cell HBL.out).trans x1; have hq3 := (hW.cell HBL.out).trans x2; first | (go_simp; done) | (go_simp; with_reducible rfl) | (go_simp; rfl)⟩) hHeld ?_
          try simp only [Act.put, List.setIfInBounds_toArray, List.set_cons_zero, List.set_cons_succ]
          refine take_at (i := 13) (v := _) 86 rfl rfl (by kernel_rfl) (by kernel_rfl) (by kernel_rfl) (fun _ _ _ h => h) (Or.inl ⟨by rfl, fun w' hW => by have hq0 := (hW.cell HBT.out).trans t1; have hq1 := (hW.cell HBL.out).trans c6; have hq2 := (hW.cell HBL.out).trans x1; have hq3 := (hW.cell HBL.out).trans x2; first | (go_simp; done) | (go_simp; with_reducible rfl) | (go_simp; rfl)⟩) hHeld ?_
          try simp only [Act.put, List.setIfInBounds_toArray, List.set_cons_zero, List.set_cons_succ]
          refine take_at (i := 14) (v := _) 87 rfl rfl (by kernel_rfl) (by kernel_rfl) (by kernel_rfl) (fun _ _ _ h => h) (Or.inl ⟨by rfl, fun w' hW => by have hq0 := (hW.cell HBT.out).trans t1; have hq1 := (hW.cell HBL.out).trans c6; have hq2 := (hW.cell HBL.out).trans x1; have hq3 := (hW.cell HBL.out).trans x2; first | (go_simp; done) | (go_simp; with_reducible rfl) | (go_simp; rfl)⟩) hHeld ?_
          try simp only [Act.put, List.setIfInBounds_toArray, List.set_cons_zero, List.set_cons_succ]
          clear hHeld
          have hrr : RowS (wr.drewN (1 + nd)) gr P.length (P.take m2) := HR.out.2.2
          refine wpAnyH_ready (rs := [15]) (by kernel_rfl) (by simp) ?_
          refine AllReadyH.cons rfl (fun K hK => ?_) AllReadyH.nil
          rw [if_pos (by rfl)]
          refine store_at rfl 36 (.tmp 87) (.tmp 86) rfl gr (m2 * 2) (aSlot p.1 p.2) (by first | rfl | simp) rfl (hrr.there (m2 * 2) 2 (by have := H1.out; omega)) (by kernel_rfl) (by simp [Value.oneCell']) ?_
          have HZ : Aside0 (Below gr w7 ((wr.drewN (1 + nd)).setCells gr (m2 * 2) (aSlot p.1 p.2).toList) ∧ RowS ((wr.drewN (1 + nd)).setCells gr (m2 * 2) (aSlot p.1 p.2).toList) gr P.length (P.take (m2 + 1))) := ⟨below_setCells (Nat.le_refl _) _ _ _ (pw_below_drewN HR.out.2.1 (1 + nd)), by
            have h3 := hrr.push [p] (by rw [List.length_take]; have := H1.out; simp; omega)
            have h4 : (P.take m2).length = m2 := by rw [List.length_take]; have := H1.out; omega
            rw [h4] at h3
            rw [List.take_succ_eq_append_getElem H1.out, HPX.out]
            exact h3⟩
          have HS9 : Aside0 (Below gr wr ((wr.drewN (1 + nd)).setCells gr (m2 * 2) (aSlot p.1 p.2).toList)) := ⟨below_setCells (Nat.le_refl _) _ _ _ (pw_below_drewN (Below.refl _ _) (1 + nd))⟩
          generalize (wr.drewN (1 + nd)).setCells gr (m2 * 2) (aSlot p.1 p.2).toList = wz at HZ HS9 ⊢
          refine hK.out _ _ HS9.out (fun hHeld => ?_)
          clear hK K
          try simp only [Act.put, List.setIfInBounds_toArray, List.set_cons_zero, List.set_cons_succ]
          refine wpAnyH_done (by kernel_rfl) ?_ _
          clear hHeld
          go_wp2
          go_roundw
          case rel => exact ⟨m2 + 1, by go_num, ⟨by have := H1.out; omega, HZ.out.1, HZ.out.2⟩⟩
          case measure => simp only [hw]; exact HH.out
        · have e1 : decide ((m2 : Int) < (P.length : Int)) = false := decide_eq_false (by omega)
          have e2 : decide (m2 < P.length) = false := decide_eq_false h1
          have hm : m2 = P.length := by have := HR.out.1; omega
          have HR2 : Aside0 (Below gr w7 wr ∧ RowS wr gr P.length P) := ⟨HR.out.2.1, by
            have h2 := HR.out.2.2
            rw [List.take_of_length_le (by omega)] at h2
            exact h2⟩
          clear HR hm
          have HB8 : Aside0 (Bd b s.mb w s [(w.heap.size, .cells #[.pointer (some ⟨b, 0, none⟩)] 25)] wr) := ⟨HB7.out.upto HR2.out.1 HBL.out (by have := HB7.out.hm; have := HB7.out.hmb; have := HBT.out; omega) (Nat.le_of_lt HBT.out) (fun p hp => by rw [List.mem_singleton.1 hp]; exact HBT.out)⟩
          have HRO2 : Aside0 (RowS wr go cn (slL L)) := ⟨HRO.out.of (HR2.out.1.block _ HGG.out)⟩
          have HRR2 : Aside0 (RowS wr gr P.length P) := ⟨HR2.out.2⟩
          have HNN : Aside0 (L.length ≤ 64 ∧ P.length ≤ 64) := ⟨by have := HNC.out; have := HPL.out; omega⟩
          have hww : wrap64 ((L.length : Int) + (P.length : Int)) = (L.length : Int) + (P.length : Int) := by have := HNN.out; unfold wrap64; omega
          obtain ⟨C2, hC2, hmk⟩ := make_slots wr (L.length + P.length) (L.length + P.length) (Nat.le_refl _) (by have := HNN.out; omega)
          simp only [Int.natCast_add] at hmk
          have HRA : Aside0 (RowS (wr.alloc (.cells C2 36)) wr.heap.size (L.length + P.length) []) := ⟨RowS.start wr C2 _ hC2⟩
          have HB9 : Aside0 (Bd b s.mb w s [(w.heap.size, .cells #[.pointer (some ⟨b, 0, none⟩)] 25)] (wr.alloc (.cells C2 36))) := ⟨HB8.out.below ((Below.refl _ _).alloc (Nat.le_refl _) _)⟩
          have HRO3 : Aside0 (RowS (wr.alloc (.cells C2 36)) go cn (slL L)) := ⟨HRO2.out.below ((Below.refl _ _).alloc (Nat.le_refl _) _)⟩
          have HRR3 : Aside0 (RowS (wr.alloc (.cells C2 36)) gr P.length P) := ⟨HRR2.out.below ((Below.refl _ _).alloc (Nat.le_refl _) _)⟩
          have HGA : Aside0 (gr < wr.heap.size) := ⟨HRR2.out.lt⟩
          clear hC2
          go_upto_region 19 with fail
          clear e1 e2 h1 hww hmk HRR2 HRO2 HB8 HRO HB7 HR2
          generalize wr.alloc (.cells C2 36) = w8 at HRA HB9 HRO3 HRR3 ⊢
          generalize wr.heap.size = ga at HRA HGA ⊢
          have hNle : L.length ≤ L.length + P.length := Nat.le_add_right _ _
          have HMIN : Aside0 (Nat.min L.length (L.length + P.length) = L.length) := ⟨Nat.min_eq_left hNle⟩
          have hfl : (fS (slL L)).length = L.length * 2 := by rw [fS_len, slL_len]
          have HFL := Aside0.mk hfl
          clear hfl
          go_upto_region 19 with fail
          have HGNE : Aside0 (gr ≠ ga ∧ go ≠ ga) := ⟨by have := HGA.out; have := HGG.out; omega⟩
          have HMIN2 : Aside0 (Nat.min P.length P.length = P.length) := ⟨Nat.min_self _⟩
          by_cases hp0 : P.length = 0
          · have k1 : (L.length : Int) ≤ (L.length : Int) + (P.length : Int) := by omega
            have k2 : (0 : Int) ≤ (L.length : Int) := by omega
            have k3 : L.length + P.length = L.length := by omega
            have HNIL : Aside0 (slL L ++ P = slL L) := ⟨by rw [List.eq_nil_of_length_eq_zero hp0, List.append_nil]⟩
            go_upto_region 20 with (first | ((with_reducible refine gate_ (.call { callee := .builtin .copy, args := #[.tmp 96, .tmp 97], argTypes := #[46, 46] }) rfl ?_); go_loud (refine copy_rows rfl (.tmp 96) (.tmp 97) rfl (some ⟨ga, 0, none⟩) (some ⟨go, 0, none⟩) (L.length + P.length) (L.length + P.length) L.length cn L.length rfl rfl HMIN.out ga 0 (fS (slL L)) HFL.out (fun _ => ⟨rfl, ⟨go, 0, none⟩, rfl, fun j v hj => by rw [add_z, Nat.zero_add]; exact HRO3.out.cell j v hj⟩) (HRA.out.there 0 _ (by rw [HFL.out]; omega)) (fS_one _) ?_); intro w9 hw9; have HRA2 : Aside0 (RowS w9 ga (L.length + P.length) (slL L)) := ⟨(by rw [hw9]; have h := HRA.out.push (slL L) (by rw [slL_len]; simp); exact h)⟩; have HRR4 : Aside0 (RowS w9 gr P.length P) := ⟨(by rw [hw9]; exact HRR3.out.other _ HGNE.out.1)⟩; have HBW9 : Aside0 (Below ga w8 w9) := ⟨(by rw [hw9]; exact below_setCells (Nat.le_refl _) _ _ _ (Below.refl _ _))⟩; clear hw9) | ((with_reducible refine gate_ (.call { callee := .builtin .copy, args := #[.tmp 99, .tmp 100], argTypes := #[46, 46] }) rfl ?_); go_loud (refine copy_rows rfl (.tmp 99) (.tmp 100) rfl (some ⟨ga, 0, none⟩) (some ⟨gr, 0, none⟩) 0 0 0 0 0 rfl rfl rfl ga 0 [] rfl (fun h => absurd h (by decide)) (HRA2.out.there 0 0 (by omega)) (by simp) ?_); intro w10 hw10; have HRA3 : Aside0 (RowS w10 ga (L.length + P.length) (slL L ++ P)) := ⟨(by rw [hw10, HNIL.out]; exact HRA2.out)⟩; have HBW10 : Aside0 (Below ga w8 w10) := ⟨(by rw [hw10]; exact HBW9.out)⟩; clear hw10))
            have K3 := Aside0.mk k3
            clear k1 k2 k3 hp0
            have HB10 : Aside0 (Bd b s.mb w s [(w.heap.size, .cells #[.pointer (some ⟨b, 0, none⟩)] 25)] w10) := ⟨HB9.out.upto HBW10.out (by have := HB9.out.hb; have := HWS.out; have := HGG.out; have := HGA.out; omega) (by have := HB9.out.hm; have := HWS.out; have := HGG.out; have := HGA.out; omega) (by have := HWS.out; have := HGG.out; have := HGA.out; omega) (fun p hp => by rw [List.mem_singleton.1 hp]; have := HWS.out; have := HGG.out; have := HGA.out; simp only; omega)⟩
            have HGAM : Aside0 (ga ≠ b ∧ ga ≠ s.mb ∧ w.heap.size ≤ ga) := ⟨by have := HB9.out.hb; have := HB9.out.hm; have := HWS.out; have := HGG.out; have := HGA.out; omega⟩
            have t1 : w10.cell? ⟨w.heap.size, 0, none⟩ = some (.pointer (some ⟨b, 0, none⟩)) := (HB10.out.ptr List.mem_cons_self 0).1
            have c10 : w10.cell? ⟨b, 329, none⟩ = some (.map (some s.mb)) := HB10.out.ln.cell 329 (by omega)
            clear HB9 HBW10 HBW9 HRR3 HRO3 HRA
            go_upto_region 21 with ((with_reducible refine gate_ (.call { callee := .builtin .clear, args := #[.tmp 105], argTypes := #[65] }) rfl ?_); refine clear_own rfl (.tmp 105) rfl s.mb s.n s.D rfl HB10.out.ln.map ?_; intro w11 hown11 hgrow11; have HX11 := Aside0.mk (And.intro hown11 hgrow11); clear hown11 hgrow11)
            clear t1 c10
            have HB11 : Aside0 (Bd b s.mb w { s with n := 0, D := .map [] } [(w.heap.size, .cells #[.pointer (some ⟨b, 0, none⟩)] 25)] w11) := ⟨HB10.out.map HX11.out.2 HX11.out.1⟩
            have HF11 : Aside0 (Far b s.mb w10 w11) := ⟨(Far.refl _ _ _).grown HX11.out.2⟩
            clear HX11 HB10
            have t1 : w11.cell? ⟨w.heap.size, 0, none⟩ = some (.pointer (some ⟨b, 0, none⟩)) := (HB11.out.ptr List.mem_cons_self 0).1
            go_upto_region 22 with ((with_reducible refine gate_store (t := 64) (p := 109) rfl ?_); go_loud (refine store_ln rfl 64 (.tmp 109) (.tmp 107) rfl b 4 Try.zeroCells64 _ rfl rfl HB11.out.ln (by rw [zero64_size]; omega) zero64_info zero64_one ?_); intro w12 hw12; have HW12 := Aside0.mk hw12; clear hw12)
            clear t1
            have HB12 : Aside0 (Bd b s.mb w { s with n := 0, D := .map [], ring := fun _ => ⟨0, 0, 0, 0, 0⟩ } [(w.heap.size, .cells #[.pointer (some ⟨b, 0, none⟩)] 25)] w12) := ⟨by rw [HW12.out]; exact HB11.out.lane 4 _ (by rw [Array.length_toList, zero64_size]; omega) (lval_zring _) rfl rfl rfl⟩
            have HF12 : Aside0 (Far b s.mb w10 w12) := ⟨by rw [HW12.out]; exact Far.setCells _ _ _ HF11.out⟩
            clear HW12 HB11 HF11
            have t1 : w12.cell? ⟨w.heap.size, 0, none⟩ = some (.pointer (some ⟨b, 0, none⟩)) := (HB12.out.ptr List.mem_cons_self 0).1
            have c8 : w12.cell? ⟨b, 327, none⟩ = some (.int .u64 s.tail) := HB12.out.ln.cell 327 (by omega)
            have c0 : w12.cell? ⟨b, 0, none⟩ = some (.int .i64 s.credit) := HB12.out.ln.cell 0 (by omega)
            have HBB : Aside0 (b < w12.heap.size) := ⟨HB12.out.ln.lt⟩
            have HTT : Aside0 (w.heap.size < w12.heap.size) := ⟨(Array.getElem?_eq_some_iff.1 (HB12.out.obj (w.heap.size, _) List.mem_cons_self).1).1⟩
            refine wp_region_held_drew (S := fun w' => w'.heap[w.heap.size]? = some (.cells #[.pointer (some ⟨b, 0, none⟩)] 25 (0, 0)) ∧ w'.cell? ⟨b, 327, none⟩ = some (.int .u64 s.tail) ∧ w'.cell? ⟨b, 0, none⟩ = some (.int .i64 s.credit)) (by kernel_rfl) ⟨(HB12.out.obj (w.heap.size, _) List.mem_cons_self).1, c8, c0⟩ (fun hHeld => ?_)
            refine take_at (i := 0) (v := _) 110 rfl rfl (by kernel_rfl) (by kernel_rfl) (by kernel_rfl) (fun _ _ _ h => h) (Or.inl ⟨by rfl, fun w' hW => by have hq0 := (tk_box hW.1); have hq1 := hW.2.1; have hq2 := hW.2.2; first | (go_simp; done) | (go_simp; with_reducible rfl) | (go_simp; rfl)⟩) hHeld ?_
            try simp only [Act.put, List.setIfInBounds_toArray, List.set_cons_zero, List.set_cons_succ]
            refine take_at (i := 1) (v := _) 111 rfl rfl (by kernel_rfl) (by kernel_rfl) (by kernel_rfl) (fun _ _ _ h => h) (Or.inl ⟨by rfl, fun w' hW => by have hq0 := (tk_box hW.1); have hq1 := hW.2.1; have hq2 := hW.2.2; first | (go_simp; done) | (go_simp; with_reducible rfl) | (go_simp; rfl)⟩) hHeld ?_
            try simp only [Act.put, List.setIfInBounds_toArray, List.set_cons_zero, List.set_cons_succ]
            refine take_at (i := 2) (v := _) 112 rfl rfl (by kernel_rfl) (by kernel_rfl) (by kernel_rfl) (fun _ _ _ h => h) (Or.inl ⟨by rfl, fun w' hW => by have hq0 := (tk_box hW.1); have hq1 := hW.2.1; have hq2 := hW.2.2; first | (go_simp; done) | (go_simp; with_reducible rfl) | (go_simp; rfl)⟩) hHeld ?_
            try simp only [Act.put, List.setIfInBounds_toArray, List.set_cons_zero, List.set_cons_succ]
            refine take_at (i := 3) (v := _) 113 rfl rfl (by kernel_rfl) (by kernel_rfl) (by kernel_rfl) (fun _ _ _ h => h) (Or.inl ⟨by rfl, fun w' hW => by have hq0 := (tk_box hW.1); have hq1 := hW.2.1; have hq2 := hW.2.2; first | (go_simp; done) | (go_simp; with_reducible rfl) | (go_simp; rfl)⟩) hHeld ?_
            try simp only [Act.put, List.setIfInBounds_toArray, List.set_cons_zero, List.set_cons_succ]
            refine take_at (i := 4) (v := _) 114 rfl rfl (by kernel_rfl) (by kernel_rfl) (by kernel_rfl) (fun _ _ _ h => h) (Or.inl ⟨by rfl, fun w' hW => by have hq0 := (tk_box hW.1); have hq1 := hW.2.1; have hq2 := hW.2.2; first | (go_simp; done) | (go_simp; with_reducible rfl) | (go_simp; rfl)⟩) hHeld ?_
            try simp only [Act.put, List.setIfInBounds_toArray, List.set_cons_zero, List.set_cons_succ]
            refine take_at (i := 5) (v := _) 115 rfl rfl (by kernel_rfl) (by kernel_rfl) (by kernel_rfl) (fun _ _ _ h => h) (Or.inl ⟨by rfl, fun w' hW => by have hq0 := (tk_box hW.1); have hq1 := hW.2.1; have hq2 := hW.2.2; first | (go_simp; done) | (go_simp; with_reducible rfl) | (go_simp; rfl)⟩) hHeld ?_
            try simp only [Act.put, List.setIfInBounds_toArray, List.set_cons_zero, List.set_cons_succ]
            refine take_at (i := 6) (v := _) 116 rfl rfl (by kernel_rfl) (by kernel_rfl) (by kernel_rfl) (fun _ _ _ h => h) (Or.inl ⟨by rfl, fun w' hW => by have hq0 := (tk_box hW.1); have hq1 := hW.2.1; have hq2 := hW.2.2; first | (go_simp; done) | (go_simp; with_reducible rfl) | (go_simp; rfl)⟩) hHeld ?_
            try simp only [Act.put, List.setIfInBounds_toArray, List.set_cons_zero, List.set_cons_succ]
            refine take_at (i := 7) (v := _) 117 rfl rfl (by kernel_rfl) (by kernel_rfl) (by kernel_rfl) (fun _ _ _ h => h) (Or.inl ⟨by rfl, fun w' hW => by have hq0 := (tk_box hW.1); have hq1 := hW.2.1; have hq2 := hW.2.2; first | (go_simp; done) | (go_simp; with_reducible rfl) | (go_simp; rfl)⟩) hHeld ?_
            try simp only [Act.put, List.setIfInBounds_toArray, List.set_cons_zero, List.set_cons_succ]
            refine take_at (i := 8) (v := _) 118 rfl rfl (by kernel_rfl) (by kernel_rfl) (by kernel_rfl) (fun _ _ _ h => h) (Or.inl ⟨by rfl, fun w' hW => by have hq0 := (tk_box hW.1); have hq1 := hW.2.1; have hq2 := hW.2.2; first | (go_simp; done) | (go_simp; with_reducible rfl) | (go_simp; rfl)⟩) hHeld ?_
            try simp only [Act.put, List.setIfInBounds_toArray, List.set_cons_zero, List.set_cons_succ]
            refine take_at (i := 9) (v := _) 119 rfl rfl (by kernel_rfl) (by kernel_rfl) (by kernel_rfl) (fun _ _ _ h => h) (Or.inl ⟨by rfl, fun w' hW => by have hq0 := (tk_box hW.1); have hq1 := hW.2.1; have hq2 := hW.2.2; first | (go_simp; done) | (go_simp; with_reducible rfl) | (go_simp; rfl)⟩) hHeld ?_
            try simp only [Act.put, List.setIfInBounds_toArray, List.set_cons_zero, List.set_cons_succ]
            refine take_at (i := 10) (v := _) 120 rfl rfl (by kernel_rfl) (by kernel_rfl) (by kernel_rfl) (fun _ _ _ h => h) (Or.inl ⟨by rfl, fun w' hW => by have hq0 := (tk_box hW.1); have hq1 := hW.2.1; have hq2 := hW.2.2; first | (go_simp; done) | (go_simp; with_reducible rfl) | (go_simp; rfl)⟩) hHeld ?_
            try simp only [Act.put, List.setIfInBounds_toArray, List.set_cons_zero, List.set_cons_succ]
            refine take_at (i := 11) (v := _) 121 rfl rfl (by kernel_rfl) (by kernel_rfl) (by kernel_rfl) (fun _ _ _ h => h) (Or.inl ⟨by rfl, fun w' hW => by have hq0 := (tk_box hW.1); have hq1 := hW.2.1; have hq2 := hW.2.2; first | (go_simp; done) | (go_simp; with_reducible rfl) | (go_simp; rfl)⟩) hHeld ?_
            try simp only [Act.put, List.setIfInBounds_toArray, List.set_cons_zero, List.set_cons_succ]
            refine take_at (i := 12) (v := _) 122 rfl rfl (by kernel_rfl) (by kernel_rfl) (by kernel_rfl) (fun _ _ _ h => h) (Or.inl ⟨by rfl, fun w' hW => by have hq0 := (tk_box hW.1); have hq1 := hW.2.1; have hq2 := hW.2.2; first | (go_simp; done) | (go_simp; with_reducible rfl) | (go_simp; rfl)⟩) hHeld ?_
            try simp only [Act.put, List.setIfInBounds_toArray, List.set_cons_zero, List.set_cons_succ]
            refine take_at (i := 13) (v := _) 123 rfl rfl (by kernel_rfl) (by kernel_rfl) (by kernel_rfl) (fun _ _ _ h => h) (Or.inl ⟨by rfl, fun w' hW => by have hq0 := (tk_box hW.1); have hq1 := hW.2.1; have hq2 := hW.2.2; first | (go_simp; done) | (go_simp; with_reducible rfl) | (go_simp; rfl)⟩) hHeld ?_
            try simp only [Act.put, List.setIfInBounds_toArray, List.set_cons_zero, List.set_cons_succ]
            refine take_at (i := 14) (v := _) 124 rfl rfl (by kernel_rfl) (by kernel_rfl) (by kernel_rfl) (fun _ _ _ h => h) (Or.inl ⟨by rfl, fun w' hW => by have hq0 := (tk_box hW.1); have hq1 := hW.2.1; have hq2 := hW.2.2; first | (go_simp; done) | (go_simp; with_reducible rfl) | (go_simp; rfl)⟩) hHeld ?_
            try simp only [Act.put, List.setIfInBounds_toArray, List.set_cons_zero, List.set_cons_succ]
            refine take_at (i := 15) (v := _) 125 rfl rfl (by kernel_rfl) (by kernel_rfl) (by kernel_rfl) (fun _ _ _ h => h) (Or.inl ⟨by rfl, fun w' hW => by have hq0 := (tk_box hW.1); have hq1 := hW.2.1; have hq2 := hW.2.2; first | (go_simp; done) | (go_simp; with_reducible rfl) | (go_simp; rfl)⟩) hHeld ?_
            try simp only [Act.put, List.setIfInBounds_toArray, List.set_cons_zero, List.set_cons_succ]
            refine take_at (i := 16) (v := _) 126 rfl rfl (by kernel_rfl) (by kernel_rfl) (by kernel_rfl) (fun _ _ _ h => h) (Or.inl ⟨by rfl, fun w' hW => by have hq0 := (tk_box hW.1); have hq1 := hW.2.1; have hq2 := hW.2.2; first | (go_simp; done) | (go_simp; with_reducible rfl) | (go_simp; rfl)⟩) hHeld ?_
            try simp only [Act.put, List.setIfInBounds_toArray, List.set_cons_zero, List.set_cons_succ]
            have HB13 := Aside0.mk (HB12.out.below (Below.refl _ _).drew)
            have HF13 : Aside0 (Far b s.mb w10 w12.drew) := ⟨HF12.out.trans (Far.of_below (Below.refl _ _).drew)⟩
            clear HB12 HF12 t1 c8 c0 hHeld HBB HTT
            generalize w12.drew = wa at HB13 HF13 ⊢
            have cc : wa.cell? ⟨b, 324, none⟩ = some _ := HB13.out.ln.cell 324 (by omega)
            have ff : wa.frozen? ⟨b, 324, none⟩ = false := HB13.out.ln.frozen 324
            refine wpAnyH_ready (rs := [17]) (by kernel_rfl) (by simp) ?_
            refine AllReadyH.cons rfl (fun K hK => ?_) AllReadyH.nil
            go_simp
            have HB14 := Aside0.mk (HB13.out.lane1 324 (.int .u64 s.tail) (by omega) (lval_base _ _) rfl rfl rfl)
            have HF14 : Aside0 (Far b s.mb w10 (wa.setCell ⟨b, 324, none⟩ (.int .u64 s.tail))) := ⟨HF13.out.setCell _ _⟩
            clear cc ff HB13 HF13
            generalize wa.setCell ⟨b, 324, none⟩ (.int .u64 s.tail) = wb0 at HB14 HF14 ⊢
            refine hK.out _ _ ⟨(HB14.out.obj (w.heap.size, _) List.mem_cons_self).1, HB14.out.ln.cell 327 (by omega), HB14.out.ln.cell 0 (by omega)⟩ (fun hHeld => ?_)
            clear hK K
            try simp only [Act.put, List.setIfInBounds_toArray, List.set_cons_zero, List.set_cons_succ]
            refine take_at (i := 18) (v := _) 127 rfl rfl (by kernel_rfl) (by kernel_rfl) (by kernel_rfl) (fun _ _ _ h => h) (Or.inl ⟨by rfl, fun w' hW => by have hq0 := (tk_box hW.1); have hq1 := hW.2.1; have hq2 := hW.2.2; first | (go_simp; done) | (go_simp; with_reducible rfl) | (go_simp; rfl)⟩) hHeld ?_
            try simp only [Act.put, List.setIfInBounds_toArray, List.set_cons_zero, List.set_cons_succ]
            refine take_at (i := 19) (v := _) 128 rfl rfl (by kernel_rfl) (by kernel_rfl) (by kernel_rfl) (fun _ _ _ h => h) (Or.inl ⟨by rfl, fun w' hW => by have hq0 := (tk_box hW.1); have hq1 := hW.2.1; have hq2 := hW.2.2; first | (go_simp; done) | (go_simp; with_reducible rfl) | (go_simp; rfl)⟩) hHeld ?_
            try simp only [Act.put, List.setIfInBounds_toArray, List.set_cons_zero, List.set_cons_succ]
            clear hHeld
            have cc : wb0.cell? ⟨b, 325, none⟩ = some _ := HB14.out.ln.cell 325 (by omega)
            have ff : wb0.frozen? ⟨b, 325, none⟩ = false := HB14.out.ln.frozen 325
            refine wpAnyH_ready (rs := [20]) (by kernel_rfl) (by simp) ?_
            refine AllReadyH.cons rfl (fun K hK => ?_) AllReadyH.nil
            go_simp
            have HB15 := Aside0.mk (HB14.out.lane1 325 (.int .u64 s.tail) (by omega) (lval_head _ _) rfl rfl rfl)
            have HF15 : Aside0 (Far b s.mb w10 (wb0.setCell ⟨b, 325, none⟩ (.int .u64 s.tail))) := ⟨HF14.out.setCell _ _⟩
            clear cc ff HB14 HF14
            generalize wb0.setCell ⟨b, 325, none⟩ (.int .u64 s.tail) = wb1 at HB15 HF15 ⊢
            refine hK.out _ _ ⟨(HB15.out.obj (w.heap.size, _) List.mem_cons_self).1, HB15.out.ln.cell 327 (by omega), HB15.out.ln.cell 0 (by omega)⟩ (fun hHeld => ?_)
            clear hK K
            try simp only [Act.put, List.setIfInBounds_toArray, List.set_cons_zero, List.set_cons_succ]
            refine take_at (i := 21) (v := _) 129 rfl rfl (by kernel_rfl) (by kernel_rfl) (by kernel_rfl) (fun _ _ _ h => h) (Or.inl ⟨by rfl, fun w' hW => by have hq0 := (tk_box hW.1); have hq1 := hW.2.1; have hq2 := hW.2.2; first | (go_simp; done) | (go_simp; with_reducible rfl) | (go_simp; rfl)⟩) hHeld ?_
            try simp only [Act.put, List.setIfInBounds_toArray, List.set_cons_zero, List.set_cons_succ]
            refine take_at (i := 22) (v := _) 130 rfl rfl (by kernel_rfl) (by kernel_rfl) (by kernel_rfl) (fun _ _ _ h => h) (Or.inl ⟨by rfl, fun w' hW => by have hq0 := (tk_box hW.1); have hq1 := hW.2.1; have hq2 := hW.2.2; first | (go_simp; done) | (go_simp; with_reducible rfl) | (go_simp; rfl)⟩) hHeld ?_
            try simp only [Act.put, List.setIfInBounds_toArray, List.set_cons_zero, List.set_cons_succ]
            clear hHeld
            have cc : wb1.cell? ⟨b, 2, none⟩ = some _ := HB15.out.ln.cell 2 (by omega)
            have ff : wb1.frozen? ⟨b, 2, none⟩ = false := HB15.out.ln.frozen 2
            refine wpAnyH_ready (rs := [23]) (by kernel_rfl) (by simp) ?_
            refine AllReadyH.cons rfl (fun K hK => ?_) AllReadyH.nil
            go_simp
            have HB16 := Aside0.mk (HB15.out.lane1 2 (.int .i64 s.credit) (by omega) (lval_left _ _) rfl rfl rfl)
            have HF16 : Aside0 (Far b s.mb w10 (wb1.setCell ⟨b, 2, none⟩ (.int .i64 s.credit))) := ⟨HF15.out.setCell _ _⟩
            clear cc ff HB15 HF15
            generalize wb1.setCell ⟨b, 2, none⟩ (.int .i64 s.credit) = wb2 at HB16 HF16 ⊢
            refine hK.out _ _ ⟨(HB16.out.obj (w.heap.size, _) List.mem_cons_self).1, HB16.out.ln.cell 327 (by omega), HB16.out.ln.cell 0 (by omega)⟩ (fun hHeld => ?_)
            clear hK K
            try simp only [Act.put, List.setIfInBounds_toArray, List.set_cons_zero, List.set_cons_succ]
            clear hHeld
            refine wpAnyH_done (by kernel_rfl) ?_ _
            have t1 : wb2.cell? ⟨w.heap.size, 0, none⟩ = some (.pointer (some ⟨b, 0, none⟩)) := (HB16.out.ptr List.mem_cons_self 0).1
            have c9 : wb2.cell? ⟨b, 328, none⟩ = some (.int .u64 s.epoch) := HB16.out.ln.cell 328 (by omega)
            have f9 : wb2.frozen? ⟨b, 328, none⟩ = false := HB16.out.ln.frozen 328
            go_wp2
            go_ret2
            have HB17 := HB16.out.lane1 328 (.int .u64 (IntKind.u64.wrap (s.epoch + 1))) (by omega) (lval_epoch _ _) rfl rfl rfl
            have HF17 := HF16.out.setCell 328 (.int .u64 (IntKind.u64.wrap (s.epoch + 1)))
            exact ⟨ga, (by rw [K3.out]; rfl), HRA3.out.far HF17 HGAM.out.1 HGAM.out.2.1, HGAM.out.2.2, HB17.ln, HB17.far⟩
          · have k1 : (L.length : Int) ≤ (L.length : Int) + (P.length : Int) := by omega
            have k2 : (0 : Int) ≤ (L.length : Int) := by omega
            have k3 : ¬ L.length + P.length = L.length := by omega
            have k4 : L.length + P.length - L.length = P.length := by omega
            have k5 : ¬ L.length = L.length + P.length := by omega
            have HPP0 := Aside0.mk hp0
            go_upto_region 20 with (first | ((with_reducible refine gate_ (.call { callee := .builtin .copy, args := #[.tmp 96, .tmp 97], argTypes := #[46, 46] }) rfl ?_); go_loud (refine copy_rows rfl (.tmp 96) (.tmp 97) rfl (some ⟨ga, 0, none⟩) (some ⟨go, 0, none⟩) (L.length + P.length) (L.length + P.length) L.length cn L.length rfl rfl HMIN.out ga 0 (fS (slL L)) HFL.out (fun _ => ⟨rfl, ⟨go, 0, none⟩, rfl, fun j v hj => by rw [add_z, Nat.zero_add]; exact HRO3.out.cell j v hj⟩) (HRA.out.there 0 _ (by rw [HFL.out]; omega)) (fS_one _) ?_); intro w9 hw9; have HRA2 : Aside0 (RowS w9 ga (L.length + P.length) (slL L)) := ⟨(by rw [hw9]; have h := HRA.out.push (slL L) (by rw [slL_len]; simp); exact h)⟩; have HRR4 : Aside0 (RowS w9 gr P.length P) := ⟨(by rw [hw9]; exact HRR3.out.other _ HGNE.out.1)⟩; have HBW9 : Aside0 (Below ga w8 w9) := ⟨(by rw [hw9]; exact below_setCells (Nat.le_refl _) _ _ _ (Below.refl _ _))⟩; clear hw9) | ((with_reducible refine gate_ (.call { callee := .builtin .copy, args := #[.tmp 99, .tmp 100], argTypes := #[46, 46] }) rfl ?_); go_loud (refine copy_rows rfl (.tmp 99) (.tmp 100) rfl (some ⟨ga, L.length * 2, none⟩) (some ⟨gr, 0, none⟩) P.length P.length P.length P.length P.length rfl rfl HMIN2.out ga (L.length * 2) (fS P) (fS_len P) (fun _ => ⟨rfl, ⟨gr, 0, none⟩, rfl, fun j v hj => by rw [add_z, Nat.zero_add]; exact HRR4.out.cell j v hj⟩) (HRA2.out.there (L.length * 2) _ (by rw [fS_len]; omega)) (fS_one _) ?_); intro w10 hw10; have HRA3 : Aside0 (RowS w10 ga (L.length + P.length) (slL L ++ P)) := ⟨(by rw [hw10]; have h := HRA2.out.push P (by rw [slL_len]; exact Nat.le_refl _); rw [slL_len] at h; exact h)⟩; have HBW10 : Aside0 (Below ga w8 w10) := ⟨(by rw [hw10]; exact below_setCells (Nat.le_refl _) _ _ _ HBW9.out)⟩; clear hw10))
            clear k1 k2 k3 k4 k5 hp0
            have HB10 : Aside0 (Bd b s.mb w s [(w.heap.size, .cells #[.pointer (some ⟨b, 0, none⟩)] 25)] w10) := ⟨HB9.out.upto HBW10.out (by have := HB9.out.hb; have := HWS.out; have := HGG.out; have := HGA.out; omega) (by have := HB9.out.hm; have := HWS.out; have := HGG.out; have := HGA.out; omega) (by have := HWS.out; have := HGG.out; have := HGA.out; omega) (fun p hp => by rw [List.mem_singleton.1 hp]; have := HWS.out; have := HGG.out; have := HGA.out; simp only; omega)⟩
            have HGAM : Aside0 (ga ≠ b ∧ ga ≠ s.mb ∧ w.heap.size ≤ ga) := ⟨by have := HB9.out.hb; have := HB9.out.hm; have := HWS.out; have := HGG.out; have := HGA.out; omega⟩
            have t1 : w10.cell? ⟨w.heap.size, 0, none⟩ = some (.pointer (some ⟨b, 0, none⟩)) := (HB10.out.ptr List.mem_cons_self 0).1
            have c10 : w10.cell? ⟨b, 329, none⟩ = some (.map (some s.mb)) := HB10.out.ln.cell 329 (by omega)
            clear HB9 HBW10 HBW9 HRR3 HRO3 HRA
            go_upto_region 21 with ((with_reducible refine gate_ (.call { callee := .builtin .clear, args := #[.tmp 105], argTypes := #[65] }) rfl ?_); refine clear_own rfl (.tmp 105) rfl s.mb s.n s.D rfl HB10.out.ln.map ?_; intro w11 hown11 hgrow11; have HX11 := Aside0.mk (And.intro hown11 hgrow11); clear hown11 hgrow11)
            clear t1 c10
            have HB11 : Aside0 (Bd b s.mb w { s with n := 0, D := .map [] } [(w.heap.size, .cells #[.pointer (some ⟨b, 0, none⟩)] 25)] w11) := ⟨HB10.out.map HX11.out.2 HX11.out.1⟩
            have HF11 : Aside0 (Far b s.mb w10 w11) := ⟨(Far.refl _ _ _).grown HX11.out.2⟩
            clear HX11 HB10
            have t1 : w11.cell? ⟨w.heap.size, 0, none⟩ = some (.pointer (some ⟨b, 0, none⟩)) := (HB11.out.ptr List.mem_cons_self 0).1
            go_upto_region 22 with ((with_reducible refine gate_store (t := 64) (p := 109) rfl ?_); go_loud (refine store_ln rfl 64 (.tmp 109) (.tmp 107) rfl b 4 Try.zeroCells64 _ rfl rfl HB11.out.ln (by rw [zero64_size]; omega) zero64_info zero64_one ?_); intro w12 hw12; have HW12 := Aside0.mk hw12; clear hw12)
            clear t1
            have HB12 : Aside0 (Bd b s.mb w { s with n := 0, D := .map [], ring := fun _ => ⟨0, 0, 0, 0, 0⟩ } [(w.heap.size, .cells #[.pointer (some ⟨b, 0, none⟩)] 25)] w12) := ⟨by rw [HW12.out]; exact HB11.out.lane 4 _ (by rw [Array.length_toList, zero64_size]; omega) (lval_zring _) rfl rfl rfl⟩
            have HF12 : Aside0 (Far b s.mb w10 w12) := ⟨by rw [HW12.out]; exact Far.setCells _ _ _ HF11.out⟩
            clear HW12 HB11 HF11
            have t1 : w12.cell? ⟨w.heap.size, 0, none⟩ = some (.pointer (some ⟨b, 0, none⟩)) := (HB12.out.ptr List.mem_cons_self 0).1
            have c8 : w12.cell? ⟨b, 327, none⟩ = some (.int .u64 s.tail) := HB12.out.ln.cell 327 (by omega)
            have c0 : w12.cell? ⟨b, 0, none⟩ = some (.int .i64 s.credit) := HB12.out.ln.cell 0 (by omega)
            have HBB : Aside0 (b < w12.heap.size) := ⟨HB12.out.ln.lt⟩
            have HTT : Aside0 (w.heap.size < w12.heap.size) := ⟨(Array.getElem?_eq_some_iff.1 (HB12.out.obj (w.heap.size, _) List.mem_cons_self).1).1⟩
            refine wp_region_held_drew (S := fun w' => w'.heap[w.heap.size]? = some (.cells #[.pointer (some ⟨b, 0, none⟩)] 25 (0, 0)) ∧ w'.cell? ⟨b, 327, none⟩ = some (.int .u64 s.tail) ∧ w'.cell? ⟨b, 0, none⟩ = some (.int .i64 s.credit)) (by kernel_rfl) ⟨(HB12.out.obj (w.heap.size, _) List.mem_cons_self).1, c8, c0⟩ (fun hHeld => ?_)
            refine take_at (i := 0) (v := _) 110 rfl rfl (by kernel_rfl) (by kernel_rfl) (by kernel_rfl) (fun _ _ _ h => h) (Or.inl ⟨by rfl, fun w' hW => by have hq0 := (tk_box hW.1); have hq1 := hW.2.1; have hq2 := hW.2.2; first | (go_simp; done) | (go_simp; with_reducible rfl) | (go_simp; rfl)⟩) hHeld ?_
            try simp only [Act.put, List.setIfInBounds_toArray, List.set_cons_zero, List.set_cons_succ]
            refine take_at (i := 1) (v := _) 111 rfl rfl (by kernel_rfl) (by kernel_rfl) (by kernel_rfl) (fun _ _ _ h => h) (Or.inl ⟨by rfl, fun w' hW => by have hq0 := (tk_box hW.1); have hq1 := hW.2.1; have hq2 := hW.2.2; first | (go_simp; done) | (go_simp; with_reducible rfl) | (go_simp; rfl)⟩) hHeld ?_
            try simp only [Act.put, List.setIfInBounds_toArray, List.set_cons_zero, List.set_cons_succ]
            refine take_at (i := 2) (v := _) 112 rfl rfl (by kernel_rfl) (by kernel_rfl) (by kernel_rfl) (fun _ _ _ h => h) (Or.inl ⟨by rfl, fun w' hW => by have hq0 := (tk_box hW.1); have hq1 := hW.2.1; have hq2 := hW.2.2; first | (go_simp; done) | (go_simp; with_reducible rfl) | (go_simp; rfl)⟩) hHeld ?_
            try simp only [Act.put, List.setIfInBounds_toArray, List.set_cons_zero, List.set_cons_succ]
            refine take_at (i := 3) (v := _) 113 rfl rfl (by kernel_rfl) (by kernel_rfl) (by kernel_rfl) (fun _ _ _ h => h) (Or.inl ⟨by rfl, fun w' hW => by have hq0 := (tk_box hW.1); have hq1 := hW.2.1; have hq2 := hW.2.2; first | (go_simp; done) | (go_simp; with_reducible rfl) | (go_simp; rfl)⟩) hHeld ?_
            try simp only [Act.put, List.setIfInBounds_toArray, List.set_cons_zero, List.set_cons_succ]
            refine take_at (i := 4) (v := _) 114 rfl rfl (by kernel_rfl) (by kernel_rfl) (by kernel_rfl) (fun _ _ _ h => h) (Or.inl ⟨by rfl, fun w' hW => by have hq0 := (tk_box hW.1); have hq1 := hW.2.1; have hq2 := hW.2.2; first | (go_simp; done) | (go_simp; with_reducible rfl) | (go_simp; rfl)⟩) hHeld ?_
            try simp only [Act.put, List.setIfInBounds_toArray, List.set_cons_zero, List.set_cons_succ]
            refine take_at (i := 5) (v := _) 115 rfl rfl (by kernel_rfl) (by kernel_rfl) (by kernel_rfl) (fun _ _ _ h => h) (Or.inl ⟨by rfl, fun w' hW => by have hq0 := (tk_box hW.1); have hq1 := hW.2.1; have hq2 := hW.2.2; first | (go_simp; done) | (go_simp; with_reducible rfl) | (go_simp; rfl)⟩) hHeld ?_
            try simp only [Act.put, List.setIfInBounds_toArray, List.set_cons_zero, List.set_cons_succ]
            refine take_at (i := 6) (v := _) 116 rfl rfl (by kernel_rfl) (by kernel_rfl) (by kernel_rfl) (fun _ _ _ h => h) (Or.inl ⟨by rfl, fun w' hW => by have hq0 := (tk_box hW.1); have hq1 := hW.2.1; have hq2 := hW.2.2; first | (go_simp; done) | (go_simp; with_reducible rfl) | (go_simp; rfl)⟩) hHeld ?_
            try simp only [Act.put, List.setIfInBounds_toArray, List.set_cons_zero, List.set_cons_succ]
            refine take_at (i := 7) (v := _) 117 rfl rfl (by kernel_rfl) (by kernel_rfl) (by kernel_rfl) (fun _ _ _ h => h) (Or.inl ⟨by rfl, fun w' hW => by have hq0 := (tk_box hW.1); have hq1 := hW.2.1; have hq2 := hW.2.2; first | (go_simp; done) | (go_simp; with_reducible rfl) | (go_simp; rfl)⟩) hHeld ?_
            try simp only [Act.put, List.setIfInBounds_toArray, List.set_cons_zero, List.set_cons_succ]
            refine take_at (i := 8) (v := _) 118 rfl rfl (by kernel_rfl) (by kernel_rfl) (by kernel_rfl) (fun _ _ _ h => h) (Or.inl ⟨by rfl, fun w' hW => by have hq0 := (tk_box hW.1); have hq1 := hW.2.1; have hq2 := hW.2.2; first | (go_simp; done) | (go_simp; with_reducible rfl) | (go_simp; rfl)⟩) hHeld ?_
            try simp only [Act.put, List.setIfInBounds_toArray, List.set_cons_zero, List.set_cons_succ]
            refine take_at (i := 9) (v := _) 119 rfl rfl (by kernel_rfl) (by kernel_rfl) (by kernel_rfl) (fun _ _ _ h => h) (Or.inl ⟨by rfl, fun w' hW => by have hq0 := (tk_box hW.1); have hq1 := hW.2.1; have hq2 := hW.2.2; first | (go_simp; done) | (go_simp; with_reducible rfl) | (go_simp; rfl)⟩) hHeld ?_
            try simp only [Act.put, List.setIfInBounds_toArray, List.set_cons_zero, List.set_cons_succ]
            refine take_at (i := 10) (v := _) 120 rfl rfl (by kernel_rfl) (by kernel_rfl) (by kernel_rfl) (fun _ _ _ h => h) (Or.inl ⟨by rfl, fun w' hW => by have hq0 := (tk_box hW.1); have hq1 := hW.2.1; have hq2 := hW.2.2; first | (go_simp; done) | (go_simp; with_reducible rfl) | (go_simp; rfl)⟩) hHeld ?_
            try simp only [Act.put, List.setIfInBounds_toArray, List.set_cons_zero, List.set_cons_succ]
            refine take_at (i := 11) (v := _) 121 rfl rfl (by kernel_rfl) (by kernel_rfl) (by kernel_rfl) (fun _ _ _ h => h) (Or.inl ⟨by rfl, fun w' hW => by have hq0 := (tk_box hW.1); have hq1 := hW.2.1; have hq2 := hW.2.2; first | (go_simp; done) | (go_simp; with_reducible rfl) | (go_simp; rfl)⟩) hHeld ?_
            try simp only [Act.put, List.setIfInBounds_toArray, List.set_cons_zero, List.set_cons_succ]
            refine take_at (i := 12) (v := _) 122 rfl rfl (by kernel_rfl) (by kernel_rfl) (by kernel_rfl) (fun _ _ _ h => h) (Or.inl ⟨by rfl, fun w' hW => by have hq0 := (tk_box hW.1); have hq1 := hW.2.1; have hq2 := hW.2.2; first | (go_simp; done) | (go_simp; with_reducible rfl) | (go_simp; rfl)⟩) hHeld ?_
            try simp only [Act.put, List.setIfInBounds_toArray, List.set_cons_zero, List.set_cons_succ]
            refine take_at (i := 13) (v := _) 123 rfl rfl (by kernel_rfl) (by kernel_rfl) (by kernel_rfl) (fun _ _ _ h => h) (Or.inl ⟨by rfl, fun w' hW => by have hq0 := (tk_box hW.1); have hq1 := hW.2.1; have hq2 := hW.2.2; first | (go_simp; done) | (go_simp; with_reducible rfl) | (go_simp; rfl)⟩) hHeld ?_
            try simp only [Act.put, List.setIfInBounds_toArray, List.set_cons_zero, List.set_cons_succ]
            refine take_at (i := 14) (v := _) 124 rfl rfl (by kernel_rfl) (by kernel_rfl) (by kernel_rfl) (fun _ _ _ h => h) (Or.inl ⟨by rfl, fun w' hW => by have hq0 := (tk_box hW.1); have hq1 := hW.2.1; have hq2 := hW.2.2; first | (go_simp; done) | (go_simp; with_reducible rfl) | (go_simp; rfl)⟩) hHeld ?_
            try simp only [Act.put, List.setIfInBounds_toArray, List.set_cons_zero, List.set_cons_succ]
            refine take_at (i := 15) (v := _) 125 rfl rfl (by kernel_rfl) (by kernel_rfl) (by kernel_rfl) (fun _ _ _ h => h) (Or.inl ⟨by rfl, fun w' hW => by have hq0 := (tk_box hW.1); have hq1 := hW.2.1; have hq2 := hW.2.2; first | (go_simp; done) | (go_simp; with_reducible rfl) | (go_simp; rfl)⟩) hHeld ?_
            try simp only [Act.put, List.setIfInBounds_toArray, List.set_cons_zero, List.set_cons_succ]
            refine take_at (i := 16) (v := _) 126 rfl rfl (by kernel_rfl) (by kernel_rfl) (by kernel_rfl) (fun _ _ _ h => h) (Or.inl ⟨by rfl, fun w' hW => by have hq0 := (tk_box hW.1); have hq1 := hW.2.1; have hq2 := hW.2.2; first | (go_simp; done) | (go_simp; with_reducible rfl) | (go_simp; rfl)⟩) hHeld ?_
            try simp only [Act.put, List.setIfInBounds_toArray, List.set_cons_zero, List.set_cons_succ]
            have HB13 := Aside0.mk (HB12.out.below (Below.refl _ _).drew)
            have HF13 : Aside0 (Far b s.mb w10 w12.drew) := ⟨HF12.out.trans (Far.of_below (Below.refl _ _).drew)⟩
            clear HB12 HF12 t1 c8 c0 hHeld HBB HTT
            generalize w12.drew = wa at HB13 HF13 ⊢
            have cc : wa.cell? ⟨b, 324, none⟩ = some _ := HB13.out.ln.cell 324 (by omega)
            have ff : wa.frozen? ⟨b, 324, none⟩ = false := HB13.out.ln.frozen 324
            refine wpAnyH_ready (rs := [17]) (by kernel_rfl) (by simp) ?_
            refine AllReadyH.cons rfl (fun K hK => ?_) AllReadyH.nil
            go_simp
            have HB14 := Aside0.mk (HB13.out.lane1 324 (.int .u64 s.tail) (by omega) (lval_base _ _) rfl rfl rfl)
            have HF14 : Aside0 (Far b s.mb w10 (wa.setCell ⟨b, 324, none⟩ (.int .u64 s.tail))) := ⟨HF13.out.setCell _ _⟩
            clear cc ff HB13 HF13
            generalize wa.setCell ⟨b, 324, none⟩ (.int .u64 s.tail) = wb0 at HB14 HF14 ⊢
            refine hK.out _ _ ⟨(HB14.out.obj (w.heap.size, _) List.mem_cons_self).1, HB14.out.ln.cell 327 (by omega), HB14.out.ln.cell 0 (by omega)⟩ (fun hHeld => ?_)
            clear hK K
            try simp only [Act.put, List.setIfInBounds_toArray, List.set_cons_zero, List.set_cons_succ]
            refine take_at (i := 18) (v := _) 127 rfl rfl (by kernel_rfl) (by kernel_rfl) (by kernel_rfl) (fun _ _ _ h => h) (Or.inl ⟨by rfl, fun w' hW => by have hq0 := (tk_box hW.1); have hq1 := hW.2.1; have hq2 := hW.2.2; first | (go_simp; done) | (go_simp; with_reducible rfl) | (go_simp; rfl)⟩) hHeld ?_
            try simp only [Act.put, List.setIfInBounds_toArray, List.set_cons_zero, List.set_cons_succ]
            refine take_at (i := 19) (v := _) 128 rfl rfl (by kernel_rfl) (by kernel_rfl) (by kernel_rfl) (fun _ _ _ h => h) (Or.inl ⟨by rfl, fun w' hW => by have hq0 := (tk_box hW.1); have hq1 := hW.2.1; have hq2 := hW.2.2; first | (go_simp; done) | (go_simp; with_reducible rfl) | (go_simp; rfl)⟩) hHeld ?_
            try simp only [Act.put, List.setIfInBounds_toArray, List.set_cons_zero, List.set_cons_succ]
            clear hHeld
            have cc : wb0.cell? ⟨b, 325, none⟩ = some _ := HB14.out.ln.cell 325 (by omega)
            have ff : wb0.frozen? ⟨b, 325, none⟩ = false := HB14.out.ln.frozen 325
            refine wpAnyH_ready (rs := [20]) (by kernel_rfl) (by simp) ?_
            refine AllReadyH.cons rfl (fun K hK => ?_) AllReadyH.nil
            go_simp
            have HB15 := Aside0.mk (HB14.out.lane1 325 (.int .u64 s.tail) (by omega) (lval_head _ _) rfl rfl rfl)
            have HF15 : Aside0 (Far b s.mb w10 (wb0.setCell ⟨b, 325, none⟩ (.int .u64 s.tail))) := ⟨HF14.out.setCell _ _⟩
            clear cc ff HB14 HF14
            generalize wb0.setCell ⟨b, 325, none⟩ (.int .u64 s.tail) = wb1 at HB15 HF15 ⊢
            refine hK.out _ _ ⟨(HB15.out.obj (w.heap.size, _) List.mem_cons_self).1, HB15.out.ln.cell 327 (by omega), HB15.out.ln.cell 0 (by omega)⟩ (fun hHeld => ?_)
            clear hK K
            try simp only [Act.put, List.setIfInBounds_toArray, List.set_cons_zero, List.set_cons_succ]
            refine take_at (i := 21) (v := _) 129 rfl rfl (by kernel_rfl) (by kernel_rfl) (by kernel_rfl) (fun _ _ _ h => h) (Or.inl ⟨by rfl, fun w' hW => by have hq0 := (tk_box hW.1); have hq1 := hW.2.1; have hq2 := hW.2.2; first | (go_simp; done) | (go_simp; with_reducible rfl) | (go_simp; rfl)⟩) hHeld ?_
            try simp only [Act.put, List.setIfInBounds_toArray, List.set_cons_zero, List.set_cons_succ]
            refine take_at (i := 22) (v := _) 130 rfl rfl (by kernel_rfl) (by kernel_rfl) (by kernel_rfl) (fun _ _ _ h => h) (Or.inl ⟨by rfl, fun w' hW => by have hq0 := (tk_box hW.1); have hq1 := hW.2.1; have hq2 := hW.2.2; first | (go_simp; done) | (go_simp; with_reducible rfl) | (go_simp; rfl)⟩) hHeld ?_
            try simp only [Act.put, List.setIfInBounds_toArray, List.set_cons_zero, List.set_cons_succ]
            clear hHeld
            have cc : wb1.cell? ⟨b, 2, none⟩ = some _ := HB15.out.ln.cell 2 (by omega)
            have ff : wb1.frozen? ⟨b, 2, none⟩ = false := HB15.out.ln.frozen 2
            refine wpAnyH_ready (rs := [23]) (by kernel_rfl) (by simp) ?_
            refine AllReadyH.cons rfl (fun K hK => ?_) AllReadyH.nil
            go_simp
            have HB16 := Aside0.mk (HB15.out.lane1 2 (.int .i64 s.credit) (by omega) (lval_left _ _) rfl rfl rfl)
            have HF16 : Aside0 (Far b s.mb w10 (wb1.setCell ⟨b, 2, none⟩ (.int .i64 s.credit))) := ⟨HF15.out.setCell _ _⟩
            clear cc ff HB15 HF15
            generalize wb1.setCell ⟨b, 2, none⟩ (.int .i64 s.credit) = wb2 at HB16 HF16 ⊢
            refine hK.out _ _ ⟨(HB16.out.obj (w.heap.size, _) List.mem_cons_self).1, HB16.out.ln.cell 327 (by omega), HB16.out.ln.cell 0 (by omega)⟩ (fun hHeld => ?_)
            clear hK K
            try simp only [Act.put, List.setIfInBounds_toArray, List.set_cons_zero, List.set_cons_succ]
            clear hHeld
            refine wpAnyH_done (by kernel_rfl) ?_ _
            have t1 : wb2.cell? ⟨w.heap.size, 0, none⟩ = some (.pointer (some ⟨b, 0, none⟩)) := (HB16.out.ptr List.mem_cons_self 0).1
            have c9 : wb2.cell? ⟨b, 328, none⟩ = some (.int .u64 s.epoch) := HB16.out.ln.cell 328 (by omega)
            have f9 : wb2.frozen? ⟨b, 328, none⟩ = false := HB16.out.ln.frozen 328
            go_wp2
            go_ret2
            have HB17 := HB16.out.lane1 328 (.int .u64 (IntKind.u64.wrap (s.epoch + 1))) (by omega) (lval_epoch _ _) rfl rfl rfl
            have HF17 := HF16.out.setCell 328 (.int .u64 (IntKind.u64.wrap (s.epoch + 1)))
            exact ⟨ga, rfl, HRA3.out.far HF17 HGAM.out.1 HGAM.out.2.1, HGAM.out.2.2, HB17.ln, HB17.far⟩
end Go.Proofs.Ytglekbbdbnpohaa.QLn
