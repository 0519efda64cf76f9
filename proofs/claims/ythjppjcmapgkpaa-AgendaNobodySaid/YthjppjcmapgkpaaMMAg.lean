/- Agenda: Order. -/
import Derived.Test.YthjppjcmapgkpaaKKAg
namespace Go.Proofs.Ythjppjcmapgkpaa.QAg
open Go.RowKit Go.Maps Go.Proofs.YthjppjcmapgkpaaW.PrintWords Go.Proofs.YthjppjcmapgkpaaW.PrintLast Go.Proofs.YthjppjcmapgkpaaW.PrintMore
set_option linter.unusedVariables false
set_option linter.unusedSimpArgs false
attribute [local go_sem] Oper.semAt_some
theorem Tr.below {b mb B n1 go n : Nat} {w w' : World} (h : Tr b mb B n1 go w w') (h1 : n ≤ b) (h2 : n ≤ mb) (h3 : n ≤ B) (h4 : n ≤ n1) (hn : n ≤ w.heap.size) : Below n w w' :=
  ⟨h.os, h.tape, h.output, h.size, fun i hi => by
    rcases h.block i (by omega) with h5 | h5 | h5 | ⟨c, t, _, ⟨h5, _⟩ | ⟨h5, _⟩⟩
    · exact h5
    · omega
    · omega
    · omega
    · omega⟩
set_option maxRecDepth 100000 in
set_option maxHeartbeats 2000000 in
theorem drain44R_calls {k0 l go gb : Nat} {w : World} {b mb B : Nat} {nx : Int} {M0 : List En} (h : Ax w b mb B nx M0) (hb : go ≠ b) (hm : go ≠ mb) (hg : w.heap[gb]? = some (.cells #[.pointer (some ⟨b, 0, none⟩)] 23 (0, 0))) (J Jx : List En → World → Prop) (hJ : ∀ pre W W', J pre W → Tr b mb B w.heap.size go W W' → J pre W') (hF : ∀ pre W, J pre W → ∃ v, W.heap[go]? = some (.cells #[v] 36 (0, 0)) ∧ ∀ i, v.ownBlock = some i → i < W.heap.size) (h0 : J [] w)
    (hY : ∀ (pre : List En) (x : En) (W1 : World), J pre W1 → pre.length < M0.length → YieldAt Fence.wide k0 Try.prog l #[.agg (aT x.key x.mark)] W1 fun r W' => (r = .returned (.bool true) ∧ J (pre ++ [x]) W' ∧ Kq go W1 W') ∨ (r = .returned (.bool false) ∧ Jx (pre ++ [x]) W' ∧ Kq go W1 W')) :
    Calls Try.prog 44 #[.func (.yield l) #[] #[], .pointer (some ⟨gb, 0, none⟩)] w fun r w' => r = .returned (.tuple #[]) ∧ EndI b mb B nx M0 J Jx w' := by
  have c0 : w.cell? ⟨gb, 0, none⟩ = some (.pointer (some ⟨b, 0, none⟩)) := by simp only [World.cell?, hg]; rfl
  have HX := Aside0.mk (eachR_calls h hb hm J Jx hJ hF h0 hY)
  clear h hb hm hJ hF h0 hY hg
  go_enter Try.func44, Try.ntmps44
  go_wp2_with (go_at_call 45; refine HX.out.mono ?_; rintro r w2 ⟨rfl, hd⟩; have HD := Aside0.mk hd; clear hd)
  exact bodyPost_end (results_none rfl _ _ _) rfl ⟨rfl, HD.out⟩
theorem fT_get : ∀ (l : List En) (i : Nat) (m : En), l[i]? = some m → ∀ j, j < 2 → (fT l)[i * 2 + j]? = (aT m.key m.mark)[j]?
  | [], i, m, h => by simp at h
  | x :: l, 0, m, h => by
    simp at h
    subst h
    intro j hj
    match j, hj with
    | 0, _ => rfl
    | 1, _ => rfl
  | x :: l, i + 1, m, h => by
    intro j hj
    have ih := fT_get l i m (by simpa using h) j hj
    show ([Value.int .i8 x.key, .int .i64 x.mark] ++ fT l)[(i + 1) * 2 + j]? = _
    rw [List.getElem?_append_right (by simp; omega), show (i + 1) * 2 + j - [Value.int .i8 x.key, Value.int .i64 x.mark].length = i * 2 + j by simp; omega]
    exact ih
theorem fT_len : ∀ l, (fT l).length = l.length * 2
  | [] => rfl
  | m :: l => by show ([Value.int .i8 m.key, .int .i64 m.mark] ++ fT l).length = _; rw [List.length_append, fT_len l]; simp; omega
theorem Ob.tr2 {b mb B n1 go base c : Nat} {w w' : World} {v : Value} {xs : List Value} (h : Ob w go base v c xs) (k : Tr b mb B n1 go w w') (hb : b < base) (hm : mb < base) (h1 : go ≠ b) (h2 : go ≠ mb) : Ob w' go base v c xs := by
  refine ⟨k.box h.box h1 h2, own_move h.row (fun i hi => ?_)⟩
  have hlo := own_base h.row hi
  obtain ⟨cells, hc⟩ := own_typed h.row i hi
  rcases k.block i (own_lt h.row hi) with h1 | h1 | h1 | ⟨cur, t, h1, h2⟩
  · exact h1
  · omega
  · omega
  · rw [hc] at h1
    injection h1 with h1
    injection h1 with _ h1
    subst h1
    rcases h2 with ⟨_, h2 | h2⟩ | ⟨_, _, h2⟩
    · exact absurd h2 (by decide)
    · exact absurd h2 (by decide)
    · exact absurd hi (h2.2 v h.box)
theorem Ob.base {w : World} {go base base' c : Nat} {v : Value} {xs : List Value} (h : Ob w go base v c xs) (hb : base' ≤ base) : Ob w go base' v c xs := by
  refine ⟨h.box, h.row.1, ?_⟩
  rcases h.row.2 with h1 | ⟨g, cap, cur, h1, h2, h3⟩
  · exact Or.inl h1
  · exact Or.inr ⟨g, cap, cur, h1, Nat.le_trans hb h2, h3⟩
theorem Kq.of_below {go : Nat} {w w' : World} {v : Value} (h : Below w.heap.size w w') (hg : w.heap[go]? = some (.cells #[v] 36 (0, 0))) : Kq go w w' :=
  ⟨h.size, fun i hi => Or.inl (h.block i hi), fun i hi hf => ⟨hf.1, fun u hu => by rw [obj_below h hg] at hu; exact hf.2 u (by rw [hg]; exact hu)⟩⟩
/-- As ob_step, the row beginning behind the box. -/
theorem ob_step2 {w w1 w2 : World} {go base c c' : Nat} {v v' : Value} {xs ys : List Value} (h : Ob w go base v c xs) (h1 : Below w.heap.size w w1) (hown : w2.ownsRow base 27 2 v' c' ys) (hg : w1.grownBy w2 v.ownBlock) (hv : v'.ownBlock = v.ownBlock ∨ v'.ownBlock = some w1.heap.size) (n : Nat) (hb : n ≤ go) (hb2 : n ≤ base) :
    Ob (w2.setCell ⟨go, 0, none⟩ v') go base v' c' ys ∧ Kq go w (w2.setCell ⟨go, 0, none⟩ v') ∧ Below n w (w2.setCell ⟨go, 0, none⟩ v') ∧ KeepsOthers w (w2.setCell ⟨go, 0, none⟩ v') := by
  have hlt : go < w.heap.size := (Array.getElem?_eq_some_iff.1 h.box).1
  have hs1 := h1.size
  have hgo : some go ≠ v.ownBlock := own_ne h.row h.box (by decide)
  have hb2 : w2.heap[go]? = some (.cells #[v] 36 (0, 0)) := (hg.block go (by omega) hgo).trans (obj_below h1 h.box)
  have hgo2 : some go ≠ v'.ownBlock := own_ne hown hb2 (by decide)
  have hsame : ∀ i, i < w.heap.size → i ≠ go → some i ≠ v.ownBlock → (w2.setCell ⟨go, 0, none⟩ v').heap[i]? = w.heap[i]? := fun i hi h2 h3 => (Below.heap_setCell _ _ _ _ h2).trans ((hg.block i (by omega) h3).trans (h1.block i hi))
  have hsz : (w2.setCell ⟨go, 0, none⟩ v').heap.size = w2.heap.size := by simp [World.setCell]
  refine ⟨⟨blk_set hb2 0 v', own_setCell hown hgo2 _⟩, ⟨by rw [hsz]; exact Nat.le_trans hs1 hg.size, fun i hi => ?_, fun i hi hf => ⟨hf.1, fun v2 hv2 => ?_⟩⟩, ⟨hg.os.trans h1.os, hg.tape.trans h1.tape, hg.output.trans h1.output, by rw [hsz]; exact Nat.le_trans hs1 hg.size, fun i hi => ?_⟩, ⟨by rw [hsz]; exact Nat.le_trans hs1 hg.size, fun i o hi ho => ?_⟩⟩
  · by_cases h2 : i = go
    · exact Or.inr (Or.inl h2)
    · by_cases h3 : some i = v.ownBlock
      · exact Or.inr (Or.inr (Or.inl ⟨own_typed h.row i h3.symm, fun hf => hf.2 v h.box h3.symm⟩))
      · exact Or.inl (hsame i hi h2 h3)
  · have hbs := blk_set hb2 0 v'
    rw [hbs] at hv2
    injection hv2 with hv2; injection hv2 with hv2; injection hv2 with hv2; injection hv2 with hv2
    rw [← hv2]
    rcases hv with e1 | e1
    · rw [e1]; exact hf.2 v h.box
    · rw [e1]; intro hc; injection hc with hc; omega
  · exact hsame i (by omega) (by omega) (fun hc => by have := own_base h.row hc.symm; omega)
  · refine (hsame i (Array.getElem?_eq_some_iff.1 hi).1 (fun hc => ?_) (fun hc => ?_)).trans hi
    · rw [hc, h.box] at hi; cases hi; cases ho
    · obtain ⟨cells, hc2⟩ := own_typed h.row i hc.symm
      rw [hc2] at hi; cases hi; cases ho
/-- The entries that a row of things becomes. -/
def mkM : Int → List En → List (Int × Int × Int)
  | _, [] => []
  | i, x :: l => (x.key, x.mark, i) :: mkM (i + 1) l
theorem mkM_snoc : ∀ (l : List En) (i : Int) (x : En), mkM i (l ++ [x]) = mkM i l ++ [(x.key, x.mark, i + l.length)]
  | [], i, x => by show _ = [] ++ _; simp [mkM]
  | y :: l, i, x => by
    show (y.key, y.mark, i) :: mkM (i + 1) (l ++ [x]) = _
    rw [mkM_snoc l]
    simp only [mkM, List.cons_append, List.length_cons]
    congr 5
    omega
theorem mkM_len : ∀ (l : List En) (i : Int), (mkM i l).length = l.length
  | [], _ => rfl
  | x :: l, i => by show (mkM (i + 1) l).length + 1 = _; rw [mkM_len l]; rfl
/-- Where the pushing stands. -/
structure PuI (w0 : World) (b mb B : Nat) (l : List En) (i : Nat) (w : World) : Prop where
  ax : ∃ M, Ax w b mb B ((i : Int) + 1) M ∧ M.map strip = mkM 1 (l.take i)
  be : Below w0.heap.size w0 w
  ge : w0.heap.size ≤ b ∧ w0.heap.size ≤ mb ∧ w0.heap.size ≤ B
/-- What Order answers. -/
def OrdP (l : List En) (w : World) (r : Ending) (w' : World) : Prop := ∃ v M, r = .returned v ∧ M.map strip = mkM 1 l ∧ w'.ownsRow w.heap.size 27 2 v (seqN M.length M).length (fT (seqN M.length M)) ∧ Below w.heap.size w w'
set_option maxRecDepth 100000 in
set_option maxHeartbeats 4000000 in
theorem Order_calls {w : World} {B0 : Nat} {A : Option Addr} {c : Nat} (l : List En) (hrow : RowQ w B0 27 2 (.slice A l.length c) l.length (fT l)) (hn : l.length ≤ 1000) : Calls Try.prog 23 #[fLess, .slice A l.length c] w fun r w' => OrdP l w r w' := by
  have HR := Aside0.mk hrow
  have HN := Aside0.mk hn
  clear hrow hn
  refine (callsIn_wide (n := 3)).1 ?_
  refine callsIn_of_wp_marks Try.func23 rfl trivial ?_ rfl
  simp only [Try.ntmps23, List.size_toArray, List.length_cons, List.length_nil, Nat.reduceAdd, Nat.reduceSub, Array.replicate_succ, Array.replicate_zero, List.push_toArray, List.append_toArray, List.nil_append, List.cons_append]
  refine (wpIn_wide (n := 3)).2 ?_
  go_upto_region 3 with (go_at_call 8; refine (New_ax _).mono ?_; rintro r w1 ⟨rfl, hl, hx⟩; have H1 : Aside0 (PuI w (w.heap.size + 1) w.heap.size (w.heap.size + 2) l 0 w1) := ⟨⟨[], hx, rfl⟩, hl, by omega, by omega, by omega⟩; clear hl hx)
  have HLT : Aside0 (w.heap.size ≤ w.heap.size + 1 ∧ w.heap.size ≤ w.heap.size ∧ w.heap.size ≤ w.heap.size + 2) := ⟨by omega, by omega, by omega⟩
  obtain ⟨mb, hmb⟩ : ∃ mb, mb = w.heap.size := ⟨_, rfl⟩
  obtain ⟨b, hb⟩ : ∃ b, b = w.heap.size + 1 := ⟨_, rfl⟩
  obtain ⟨B, hB⟩ : ∃ B, B = w.heap.size + 2 := ⟨_, rfl⟩
  rw [← hb, ← hB] at H1
  replace H1 : Aside0 (PuI w b mb B l 0 w1) := ⟨by rw [hmb]; exact H1.out⟩
  try rw [← hb]
  clear hb hB hmb HLT
  go_loopw [14] (fun i wr => ∃ i0 : Nat, i0 ≤ l.length ∧ i = .int .i64 (i0 : Int) ∧ Aside0 (PuI w b mb B l i0 wr)) (fun i _ => l.length - (intOf i).toNat)
  case atStart => exact ⟨0, Nat.zero_le _, rfl, H1⟩
  case round =>
    clear H1
    obtain ⟨i, hil, rfl, HS⟩ := hrel
    by_cases hlt : i < l.length
    · have b1 : (0 : Int) ≤ (i : Int) := Int.natCast_nonneg i
      have b2 : (i : Int) < (l.length : Int) := Int.ofNat_lt.2 hlt
      have b3 : decide ((i : Int) < (l.length : Int)) = true := decide_eq_true b2
      have b4 : decide (i < l.length) = true := decide_eq_true hlt
      have ht : ((i : Int)).toNat = i := Int.toNat_natCast i
      have hwi : wrap64 ((i : Int) + 1) = (i : Int) + 1 := w64_nat (Nat.lt_of_lt_of_le hlt (Nat.le_trans HN.out (by decide)))
      have HHi : Aside0 (l.length - ((i : Int) + 1).toNat < l.length - ((i : Int)).toNat) := ⟨meas_nat hlt⟩
      have HL : Aside0 (i + 1 ≤ l.length) := ⟨hlt⟩
      have HE : Aside0 (l[i]? = some l[i]) := ⟨List.getElem?_eq_getElem hlt⟩
      obtain ⟨g, o, cap, cur, hv, y1, y2, y3, y4, y5⟩ := HR.out.lies (by omega)
      injection hv with e1 e2 e3
      subst e1 e3
      clear e2
      generalize l[i] = x at HE
      have hbw := obj_below HS.out.be y2
      have x0 : wr.cell? ⟨g, o + i * 2, none⟩ = some (.int .i8 x.key) := by
        simp only [World.cell?, hbw]
        exact y5 (i * 2) _ (by have := fT_get l i x HE.out 0 (by omega); rw [Nat.add_zero] at this; rw [this]; rfl)
      have x1 : wr.cell? ⟨g, o + i * 2 + 1, none⟩ = some (.int .i64 x.mark) := by
        simp only [World.cell?, hbw]
        rw [Nat.add_assoc]
        exact y5 (i * 2 + 1) _ (by rw [fT_get l i x HE.out 1 (by omega)]; rfl)
      clear y1 y2 y3 y4 y5 hbw hlt
      obtain ⟨M, hax, hst⟩ := HS.out.ax
      have HB : Aside0 (Below wr.heap.size wr (wr.alloc (.cells (aT x.key x.mark) 27))) := ⟨(Below.refl _ _).alloc (Nat.le_refl _) _⟩
      have HAX := Aside0.mk (And.intro (hax.below HB.out) (And.intro hst (HS.out.be.trans (HB.out.mono HS.out.be.size))))
      have HST : Aside0 (∀ g3 : Nat, (M ++ [(⟨g3, (i : Int) + 1, x.key, x.mark⟩ : En)]).map strip = mkM 1 (l.take (i + 1))) := ⟨fun g3 => by
        have e1 : l.take (i + 1) = l.take i ++ [x] := by rw [List.take_add_one, HE.out]; rfl
        rw [List.map_append, hst, e1, mkM_snoc, List.length_take, Nat.min_eq_left (by have := HL.out; omega)]
        simp only [List.map_cons, List.map_nil, strip]
        rw [Int.add_comm]⟩
      have HIX : Aside0 ((i : Int) + 1 < 100000) := ⟨by have := HN.out; have := HL.out; omega⟩
      clear hax hst HB
      go_upto_region 5 with fail
      have hbx : (wr.alloc (.cells (aT x.key x.mark) 27)).heap[wr.heap.size]? = some (.cells (aT x.key x.mark) 27 (0, 0)) := World.alloc_heap_new _ _
      have z0 : (wr.alloc (.cells (aT x.key x.mark) 27)).cell? ⟨wr.heap.size, 0, none⟩ = some (.int .i8 x.key) := by simp only [World.cell?, hbx]; rfl
      have z1 : (wr.alloc (.cells (aT x.key x.mark) 27)).cell? ⟨wr.heap.size, 1, none⟩ = some (.int .i64 x.mark) := by simp only [World.cell?, hbx]; rfl
      clear hbx x0 x1
      generalize wr.alloc (.cells (aT x.key x.mark) 27) = w2 at HAX z0 z1 ⊢
      generalize wr.heap.size = g7 at z0 z1 ⊢
      go_wp2_with (go_at_call 15; go_loud (refine (Push_ax HAX.out.1 HIX.out x.key x.mark).mono ?_; rintro r w3 ⟨rfl, g3, hx3, hg3⟩; have HP : Aside0 (PuI w b mb B l (i + 1) w3) := ⟨⟨_, (by rw [show (((i + 1 : Nat) : Int) + 1) = (i : Int) + 1 + 1 by omega]; exact hx3), HST.out g3⟩, HAX.out.2.2.trans (hg3.below HS.out.ge.1 HS.out.ge.2.1 HS.out.ge.2.2 HAX.out.2.2.size), HS.out.ge⟩; clear hx3 hg3))
      go_roundw
      case rel => exact ⟨i + 1, HL.out, (by first | rfl | (rw [hwi]; rfl)), HP⟩
      case measure => first | exact HHi.out | (simp only [hwi]; exact HHi.out)
    · have b3 : decide ((i : Int) < (l.length : Int)) = false := decide_eq_false (by omega)
      have b4 : decide (i < l.length) = false := decide_eq_false hlt
      have HZ : Aside0 (i = l.length) := ⟨by omega⟩
      clear hlt
      obtain ⟨M, hax, hst⟩ := HS.out.ax
      rw [HZ.out, List.take_length] at hst
      have s1 : (wr.alloc (.cells #[.slice none 0 0] 36)).heap.size = wr.heap.size + 1 := size_alloc1 _ _
      have HBW : Below wr.heap.size wr ((wr.alloc (.cells #[.slice none 0 0] 36)).alloc (.cells #[.pointer (some ⟨b, 0, none⟩)] 23)) := ((Below.refl _ _).alloc (Nat.le_refl _) _).alloc (by simp) _
      have HAX := Aside0.mk (And.intro (hax.below HBW) (And.intro hst (And.intro (HS.out.be.trans (HBW.mono HS.out.be.size)) HS.out.ge)))
      have hlt0 := hax.lt
      have HGO : Aside0 (((wr.alloc (.cells #[.slice none 0 0] 36)).alloc (.cells #[.pointer (some ⟨b, 0, none⟩)] 23)).heap[wr.heap.size]? = some (.cells #[.slice none 0 0] 36 (0, 0)) ∧ ((wr.alloc (.cells #[.slice none 0 0] 36)).alloc (.cells #[.pointer (some ⟨b, 0, none⟩)] 23)).heap[wr.heap.size + 1]? = some (.cells #[.pointer (some ⟨b, 0, none⟩)] 23 (0, 0)) ∧ wr.heap.size ≠ b ∧ wr.heap.size ≠ mb ∧ w.heap.size ≤ wr.heap.size ∧ b < ((wr.alloc (.cells #[.slice none 0 0] 36)).alloc (.cells #[.pointer (some ⟨b, 0, none⟩)] 23)).heap.size ∧ mb < ((wr.alloc (.cells #[.slice none 0 0] 36)).alloc (.cells #[.pointer (some ⟨b, 0, none⟩)] 23)).heap.size) := ⟨by
        have h9 := HBW.size
        refine ⟨obj_below ((Below.refl _ _).alloc (Nat.le_refl _) _) (World.alloc_heap_new _ _), ?_, by omega, by omega, HS.out.be.size, by omega, by omega⟩
        have := World.alloc_heap_new (wr.alloc (.cells #[.slice none 0 0] 36)) (.cells #[.pointer (some ⟨b, 0, none⟩)] 23)
        rwa [s1] at this⟩
      have HMN : Aside0 (M.length ≤ 1000) := ⟨by have h1 := congrArg List.length hst; rw [List.length_map, mkM_len] at h1; have := HN.out; omega⟩
      clear hax hst s1 HBW hlt0
      go_wp2_with (go_at_call 30; refine (Drain_calls b _).mono ?_; rintro r w2 ⟨rfl, rfl⟩)
      generalize ((wr.alloc (.cells #[.slice none 0 0] 36)).alloc (.cells #[.pointer (some ⟨b, 0, none⟩)] 23)) = w2 at HAX HGO ⊢
      generalize wr.heap.size + 1 = gb at HGO ⊢
      generalize wr.heap.size = go at HGO ⊢
      refine (wpIn_wide (n := 3)).1 ?_
      refine range_own (go := go) (b := b) (mb := mb) (B := B) (n := 3) (by decide) (gf := 44) (lb := #[.pointer (some ⟨gb, 0, none⟩)]) (by rfl) (enters_of Try.func44 (by kernel_rfl) rfl) M.length (fun x => #[.agg (aT x.key x.mark)]) (fun _ => rfl) HGO.out.2.2.2.2.2.1 HGO.out.2.2.2.2.2.2
        (fun xs _ => ∃ j, xs = seqN j M ∧ (seqN j M).length = j ∧ best (leftN j M) = none) (fun pre W => (∃ v, Ob W go w2.heap.size v pre.length (fT pre)) ∧ Below w.heap.size w W ∧ w2.heap.size ≤ W.heap.size) ?seq ?tr ?box ?rec (fun _ _ _ _ _ h _ _ => h) ?start ?round ?done
      case seq =>
        intro l2 J W hbW hJ hF h0 hY
        refine callsIn_wide.2 ((drain44R_calls (k0 := 1) (l := l2) (HAX.out.1.below hbW) HGO.out.2.2.1 HGO.out.2.2.2.1 (obj_below hbW HGO.out.2.1) J (fun _ _ => False) hJ hF h0 (fun pre x W1 hj hl => hY pre x W1 hj hl)).mono ?_)
        rintro r W' ⟨rfl, ⟨j, hl, hn, hj, _⟩ | ⟨j, _, hj, _⟩⟩
        · exact ⟨⟨_, rfl⟩, _, ⟨j, rfl, hl, hn⟩, hj⟩
        · exact hj.elim
      case tr =>
        rintro pre W W' n1 hn1 ⟨⟨v, hv⟩, hb⟩ k
        have hsz : w.heap.size ≤ n1 := Nat.le_trans HAX.out.2.2.1.size hn1
        exact ⟨⟨v, hv.tr2 k HGO.out.2.2.2.2.2.1 HGO.out.2.2.2.2.2.2 HGO.out.2.2.1 HGO.out.2.2.2.1⟩, hb.1.trans (k.below HAX.out.2.2.2.1 HAX.out.2.2.2.2.1 HAX.out.2.2.2.2.2 hsz hb.1.size), Nat.le_trans hb.2 k.size⟩
      case box =>
        rintro pre W ⟨⟨v, hv⟩, hb⟩
        exact ⟨v, hv.box, fun i hi => own_lt hv.row hi⟩
      case rec =>
        rintro pre W l2 r r' ⟨⟨v, hv⟩, hb⟩ hl2 hl3
        have hne : go ≠ l2 := fun hc => by have := hv.box; rw [hc, hl3] at this; cases this
        exact ⟨⟨v, (World.putObj_heap_other hne).trans hv.box, ownsRow_putObj hv.row _ hl3 rfl⟩, hb.1.trans (belowK_b (w := w2) HAX.out.2.2.1.size W l2 _ _ hl2 hl3 rfl rfl), by simpa using hb.2⟩
      case start => exact ⟨⟨_, HGO.out.1, World.ownsRow_nil _ _ _ _⟩, HAX.out.2.2.1, Nat.le_refl _⟩
      case round =>
        rintro l2 pre x W ⟨⟨v, hv⟩, hb⟩ hlen
        have HBW : Aside0 (Below W.heap.size W (W.alloc (.cells (aT x.key x.mark) 27))) := ⟨(Below.refl _ _).alloc (Nat.le_refl _) _⟩
        have HK : Aside0 (KeepsOthers W (W.alloc (.cells (aT x.key x.mark) 27)) ∧ Kq go W (W.alloc (.cells (aT x.key x.mark) 27)) ∧ ((∃ v, Ob (W.alloc (.cells (aT x.key x.mark) 27)) go w2.heap.size v pre.length (fT pre)) ∧ Below w.heap.size w (W.alloc (.cells (aT x.key x.mark) 27)) ∧ w2.heap.size ≤ (W.alloc (.cells (aT x.key x.mark) 27)).heap.size) ∧ (W.alloc (.cells (aT x.key x.mark) 27)).heap[W.heap.size]? = some (.cells (aT x.key x.mark) 27 (0, 0))) := ⟨KeepsOthers.alloc W _, Kq.of_below HBW.out hv.box, ⟨⟨v, obj_below HBW.out hv.box, hv.row.alloc _⟩, hb.1.trans (HBW.out.mono hb.1.size), Nat.le_trans hb.2 HBW.out.size⟩, World.alloc_heap_new _ _⟩
        have HLN := Aside0.mk hlen
        clear hv hb hlen v
        gi_wp2
        refine ⟨HK.out.1, HK.out.2.1, HK.out.2.2.1, fun r r' hl3 hi2 => ?_⟩
        have hne9 : W.heap.size ≠ l2 := fun hc => by have h9 := HK.out.2.2.2; rw [hc] at h9; have h8 : (W.alloc (.cells (aT x.key x.mark) 27)).heap[l2]? = some (.loop r) := hl3; rw [h9] at h8; cases h8
        have hbx : ((W.alloc (.cells (aT x.key x.mark) 27)).putObj l2 (.loop r')).heap[W.heap.size]? = some (.cells (aT x.key x.mark) 27 (0, 0)) := (World.putObj_heap_other hne9).trans HK.out.2.2.2
        have HII : Aside0 ((∃ v, Ob ((W.alloc (.cells (aT x.key x.mark) 27)).putObj l2 (.loop r')) go w2.heap.size v pre.length (fT pre)) ∧ Below w.heap.size w ((W.alloc (.cells (aT x.key x.mark) 27)).putObj l2 (.loop r')) ∧ w2.heap.size ≤ ((W.alloc (.cells (aT x.key x.mark) 27)).putObj l2 (.loop r')).heap.size) := ⟨hi2⟩
        have HSZ : Aside0 (w2.heap.size ≤ ((W.alloc (.cells (aT x.key x.mark) 27)).putObj l2 (.loop r')).heap.size ∧ pre.length < 1000000) := ⟨hi2.2.2, by have := HLN.out; have := HMN.out; omega⟩
        clear hl3 hi2 hne9
        try change Code.wpIn _ _ _ _ (rndQ go _ ((W.alloc (.cells (aT x.key x.mark) 27)).putObj l2 (.loop r'))) _ ((W.alloc (.cells (aT x.key x.mark) 27)).putObj l2 (.loop r'))
        generalize (W.alloc (.cells (aT x.key x.mark) 27)).putObj l2 (.loop r') = W3 at hbx HII HSZ ⊢
        have x0 : W3.cell? ⟨W.heap.size, 0, none⟩ = some (.int .i8 x.key) := by simp only [World.cell?, hbx]; rfl
        have x1 : W3.cell? ⟨W.heap.size, 1, none⟩ = some (.int .i64 x.mark) := by simp only [World.cell?, hbx]; rfl
        clear hbx HK HBW
        generalize W.heap.size = g9 at x0 x1 ⊢
        obtain ⟨v, hv⟩ := HII.out.1
        obtain ⟨A2, c2, rfl⟩ := own_form hv.row
        have HV := Aside0.mk hv
        have hgb := hv.box
        have d0 : W3.cell? ⟨go, 0, none⟩ = some (.slice A2 pre.length c2) := by simp only [World.cell?, hgb]; rfl
        have HI0 := Aside0.mk (info_parts info27)
        obtain ⟨i0, hi0⟩ := HI0.out
        have HIF := Aside0.mk hi0
        clear hi0 HI0 hv hgb
        gi_wp2_with (gi_at_builtin; go_loud (refine wpListIn_append_own_at _ rfl _ _ 36 rfl w2.heap.size 27 i0 _ 2 16 Try.underlying36 HIF.out.1 HIF.out.2.1 HIF.out.2.2.1 HIF.out.2.2.2 rfl (by decide) (.slice A2 pre.length c2) _ _ rfl (HV.out.row.alloc _) _ 1 1 [.int .i8 x.key, .int .i64 x.mark] rfl rfl (cells_new _ _ _) (by intro u hu; simp only [List.mem_cons, List.not_mem_nil, or_false] at hu; rcases hu with rfl | rfl <;> rfl) (by have := HSZ.out.2; unfold maxLen; omega) (by have := HSZ.out.2; omega) (by have := HSZ.out.1; simp; omega) ?_); intro v' w9 hown' hgrow _ hvb; have HA5 := Aside0.mk (And.intro hown' (And.intro hgrow hvb)); clear hown' hgrow hvb; obtain ⟨g', cap', rfl⟩ := ownsRow_succ HA5.out.1; have hbw9 : w9.heap[go]? = some (.cells #[.slice A2 pre.length c2] 36 (0, 0)) := ((HA5.out.2.1.block go (by have := (Array.getElem?_eq_some_iff.1 HV.out.box).1; simp; omega) (own_ne HV.out.row HV.out.box (by decide))).trans (obj_below ((Below.refl _ _).alloc (Nat.le_refl _) _) HV.out.box)); have hf9 : w9.frozen? ⟨go, 0, none⟩ = false := (by simp [World.frozen?, hbw9]); have hc9 : w9.cell? ⟨go, 0, none⟩ = some (.slice A2 pre.length c2) := (by simp only [World.cell?, hbw9]; rfl))
        have HST := Aside0.mk (ob_step2 HV.out ((Below.refl _ _).alloc (Nat.le_refl _) (.cells #[.int .i8 x.key, .int .i64 x.mark] 27)) HA5.out.1 HA5.out.2.1 HA5.out.2.2 w.heap.size HGO.out.2.2.2.2.1 HAX.out.2.2.1.size)
        exact ⟨HST.out.2.2.2, HST.out.2.1, ⟨_, by rw [fT_snoc, List.length_append]; exact HST.out.1⟩, HII.out.2.1.trans HST.out.2.2.1, Nat.le_trans HII.out.2.2 HST.out.2.1.size⟩
      case done =>
        rintro D xs W hD ⟨j, rfl, hl, hn⟩ ⟨⟨v, hv⟩, hb⟩ hd
        (try simp only [Exit.inBlock, Exit.then])
        have hbx := hv.box
        obtain ⟨A2, c2, rfl⟩ := own_form hv.row
        have d0 : W.cell? ⟨go, 0, none⟩ = some (.slice A2 (seqN j M).length c2) := by simp only [World.cell?, hbx]; rfl
        obtain ⟨e1, e2⟩ := seqN_end j M hl hn M.length (by have := seqN_sum j M HAX.out.1.inc; omega)
        have HFIN : Aside0 (OrdP l w (.returned (.slice A2 (seqN j M).length c2)) (W.putObj D (Obj.deferred none))) := ⟨⟨_, M, rfl, HAX.out.2.1, by rw [e1]; exact ownsRow_putObj (hv.base HAX.out.2.2.1.size).row _ hd rfl, hb.1.trans (belowK_b (w := w2) HAX.out.2.2.1.size W D _ _ hD hd rfl rfl)⟩⟩
        clear hl e1 e2
        go_wp2
        refine ⟨by simp, .inl ⟨_, _, rfl, run_takeDeferred hd, ?_⟩⟩
        refine ⟨_, results_tmp rfl _ _ _, ?_⟩
        exact HFIN.out
end Go.Proofs.Ythjppjcmapgkpaa.QAg
