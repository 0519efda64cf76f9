/- Agenda: Drain, and the law's drain. -/
import Derived.Test.YthjppjcmapgkpaaBBAg
namespace Go.Proofs.Ythjppjcmapgkpaa.QAg
open Go.RowKit Go.Maps Go.Proofs.YthjppjcmapgkpaaW.PrintWords Go.Proofs.YthjppjcmapgkpaaW.PrintLast Go.Proofs.YthjppjcmapgkpaaW.PrintMore
set_option linter.unusedVariables false
set_option linter.unusedSimpArgs false
theorem Ag.tr {b mb B n1 go : Nat} {w0 w w' : World} (h : Ag b mb B w0 w) (k : Tr b mb B n1 go w w') (hn : w0.heap.size ≤ n1) : Ag b mb B w0 w' := by
  refine ⟨k.os.trans h.os, k.tape.trans h.tape, k.output.trans h.output, Nat.le_trans h.size k.size, fun i hi => ?_, fun i cur t hi => ?_⟩
  · rcases h.block i hi with h1 | h1 | h1 | h1
    · rcases k.block i (Nat.lt_of_lt_of_le hi h.size) with k1 | k1 | k1 | ⟨cur, t, k2, ⟨k1, k3⟩ | ⟨k1, _⟩⟩
      · exact Or.inl (k1.trans h1)
      · exact Or.inr (Or.inl k1)
      · exact Or.inr (Or.inr (Or.inl k1))
      · exact Or.inr (Or.inr (Or.inr ⟨k1, cur, t, h1 ▸ k2, k3⟩))
      · omega
    · exact Or.inr (Or.inl h1)
    · exact Or.inr (Or.inr (Or.inl h1))
    · exact Or.inr (Or.inr (Or.inr h1))
  · obtain ⟨c1, e1⟩ := h.keep i cur t hi
    exact k.keep i c1 t e1
theorem Ag.belowB {b mb B : Nat} {w0 w w' : World} (h : Ag b mb B w0 w) (k : Below w0.heap.size w w') : Ag b mb B w0 w' :=
  ⟨k.os.trans h.os, k.tape.trans h.tape, k.output.trans h.output, Nat.le_trans h.size k.size, fun i hi => by rw [k.block i hi]; exact h.block i hi, fun i cur t hi => by
    obtain ⟨c1, e1⟩ := h.keep i cur t hi
    exact ⟨c1, (k.block i (Array.getElem?_eq_some_iff.1 hi).1).trans e1⟩⟩
theorem Ob.tr {b mb B n1 go base c : Nat} {w w' : World} {v : Value} {xs : List Value} (h : Ob w go base v c xs) (k : Tr b mb B n1 go w w') (hb : b < base) (hm : mb < base) (hg : base ≤ go) : Ob w' go base v c xs := by
  refine ⟨k.box h.box (by omega) (by omega), own_move h.row (fun i hi => ?_)⟩
  have hlo := own_base h.row hi
  obtain ⟨cells, hc⟩ := own_typed h.row i hi
  rcases k.block i (own_lt h.row hi) with h1 | h1 | h1 | ⟨cur, t, h1, h2⟩
  · exact h1
  · omega
  · omega
  · rw [hc] at h1
    injection h1 with h1
    injection h1 with _ h1
    subst h1
    rcases h2 with ⟨_, h2 | h2⟩ | ⟨_, _, h2⟩
    · exact absurd h2 (by decide)
    · exact absurd h2 (by decide)
    · exact absurd hi (h2.2 v h.box)
theorem Tr.int {b mb B n1 go g : Nat} {w w' : World} {C : Array Value} (k : Tr b mb B n1 go w w') (hg : w.heap[g]? = some (.cells C 3 (0, 0))) (hb : g ≠ b) (hm : g ≠ mb) : w'.heap[g]? = some (.cells C 3 (0, 0)) := by
  rcases k.block g (Array.getElem?_eq_some_iff.1 hg).1 with h1 | h1 | h1 | ⟨cur, t, h1, h2⟩
  · exact h1.trans hg
  · exact absurd h1 hb
  · exact absurd h1 hm
  · rw [hg] at h1
    injection h1 with h1
    injection h1 with _ h1
    subst h1
    rcases h2 with ⟨_, h2 | h2⟩ | ⟨_, h2, _⟩ <;> exact absurd h2 (by decide)
/-- Where drain stands. -/
structure DrJ (b mb B go gm : Nat) (lim : Nat) (w0 : World) (pre : List En) (w : World) : Prop where
  ob : ∃ v, Ob w go w0.heap.size v pre.length (fT pre)
  most : w.heap[gm]? = some (.cells #[.int .i64 (lim : Int)] 3 (0, 0))
  ag : Ag b mb B w0 w
  ge : w0.heap.size ≤ go ∧ w0.heap.size ≤ gm
theorem DrJ.tr {b mb B go gm n1 lim : Nat} {w0 w w' : World} {pre : List En} (h : DrJ b mb B go gm lim w0 pre w) (hb : b < w0.heap.size) (hm : mb < w0.heap.size) (hn : w0.heap.size ≤ n1) (k : Tr b mb B n1 go w w') : DrJ b mb B go gm lim w0 pre w' := by
  obtain ⟨v, h1⟩ := h.ob
  have := h.ge
  exact ⟨⟨v, h1.tr k hb hm this.1⟩, k.int h.most (by omega) (by omega), h.ag.tr k hn, this⟩
theorem DrJ.yld {b mb B go gm lim : Nat} {w0 w : World} {pre : List En} (h : DrJ b mb B go gm lim w0 pre w) (hl : pre.length < lim) (hl2 : lim ≤ 1000) (x : En) : Calls Try.prog 32 #[.agg (aT x.key x.mark), .pointer (some ⟨go, 0, none⟩), .pointer (some ⟨gm, 0, none⟩)] w fun r w' =>
    (r = .returned (.bool true) ∧ (DrJ b mb B go gm lim w0 (pre ++ [x]) w' ∧ (pre ++ [x]).length < lim) ∧ Kq go w w') ∨ (r = .returned (.bool false) ∧ (DrJ b mb B go gm lim w0 (pre ++ [x]) w' ∧ (pre ++ [x]).length = lim) ∧ Kq go w w') := by
  obtain ⟨v, h1⟩ := h.ob
  refine (yld_calls h1 h.most h.ge.1 (by omega) x.key x.mark).mono ?_
  rintro r w' ⟨rfl, ⟨v', h2⟩, h3, h4⟩
  have hD : DrJ b mb B go gm lim w0 (pre ++ [x]) w' := ⟨⟨v', by rw [fT_snoc, List.length_append]; exact h2⟩, (h3.typed h1.box h.most (by decide) (by decide)).trans h.most, h.ag.belowB h4, h.ge⟩
  have hlen : (pre ++ [x]).length = pre.length + 1 := by rw [List.length_append]; rfl
  by_cases hc : pre.length + 1 < lim
  · exact Or.inl ⟨by rw [decide_eq_true (by omega)], ⟨hD, by omega⟩, h3⟩
  · exact Or.inr ⟨by rw [decide_eq_false (by omega)], ⟨hD, by omega⟩, h3⟩
set_option maxRecDepth 100000 in
theorem Drain_calls (b : Nat) (w : World) : Calls Try.prog 30 #[.pointer (some ⟨b, 0, none⟩)] w fun r w' => r = .returned (.func (.func 44) #[] #[.pointer (some ⟨w.heap.size, 0, none⟩)]) ∧ w' = w.alloc (.cells #[.pointer (some ⟨b, 0, none⟩)] 23) := by
  go_enter Try.func30, Try.ntmps30
  go_wp2
  go_ret
  exact ⟨rfl, rfl⟩
/-- What is drained by so many calls. -/
structure DrP (w : World) (b mb B : Nat) (nx : Int) (M : List En) (lim : Nat) (go : Nat) (w' : World) : Prop where
  ob : ∃ v, Ob w' go w.heap.size v (seqN lim M).length (fT (seqN lim M))
  ax : Ax w' b mb B nx (leftN lim M)
  ag : Ag b mb B w w'
theorem drain_each {w0 w : World} {b mb B go gm lim : Nat} {nx : Int} {M : List En} (h : Ax w b mb B nx M) (hb : b < w0.heap.size) (hm : mb < w0.heap.size) (h0 : 0 < lim) (h1 : lim ≤ 1000) (hJ : DrJ b mb B go gm lim w0 [] w) : Calls Try.prog 45 #[fPop b, fYld go gm] w fun r w' => r = .returned (.tuple #[]) ∧ DrP w0 b mb B nx M lim go w' := by
  have hge := hJ.ge
  have hsz := hJ.ag.size
  refine (eachF_calls h (by omega) (by omega) (fun pre W => DrJ b mb B go gm lim w0 pre W ∧ pre.length < lim) (fun pre W => DrJ b mb B go gm lim w0 pre W ∧ pre.length = lim) (fun pre W W' hj k => ⟨hj.1.tr hb hm hsz k, hj.2⟩) (fun pre W hj => ?_) ⟨hJ, h0⟩ (fun pre x W1 hj _ => hj.1.yld hj.2 h1 x)).mono ?_
  · obtain ⟨v, h2⟩ := hj.1.ob
    exact ⟨v, h2.box, fun i hi => own_lt h2.row hi⟩
  · rintro r w' ⟨rfl, ⟨j, hl, hn, ⟨hj, hlt⟩, ha⟩ | ⟨j, hl, ⟨hj, hlt⟩, ha⟩⟩
    · obtain ⟨e1, e2⟩ := seqN_end j M hl hn lim (by omega)
      refine ⟨rfl, ?_, ?_, hj.ag⟩
      · rw [e1]; exact hj.ob
      · rw [e2]; exact ha
    · have : lim = j + 1 := by omega
      subst this
      exact ⟨rfl, hj.ob, ha, hj.ag⟩
set_option maxRecDepth 100000 in
set_option maxHeartbeats 2000000 in
theorem drain44_calls {w0 w : World} {b mb B go gm lim gb : Nat} {nx : Int} {M : List En} (h : Ax w b mb B nx M) (hb : b < w0.heap.size) (hm : mb < w0.heap.size) (h0 : 0 < lim) (h1 : lim ≤ 1000) (hJ : DrJ b mb B go gm lim w0 [] w) (hg : w.heap[gb]? = some (.cells #[.pointer (some ⟨b, 0, none⟩)] 23 (0, 0))) : Calls Try.prog 44 #[fYld go gm, .pointer (some ⟨gb, 0, none⟩)] w fun r w' => r = .returned (.tuple #[]) ∧ DrP w0 b mb B nx M lim go w' := by
  have c0 : w.cell? ⟨gb, 0, none⟩ = some (.pointer (some ⟨b, 0, none⟩)) := by simp only [World.cell?, hg]; rfl
  have HA := Aside0.mk (And.intro h (And.intro hb (And.intro hm (And.intro h0 (And.intro h1 hJ)))))
  clear h hb hm h0 h1 hJ hg
  go_enter Try.func44, Try.ntmps44
  go_wp2_with (go_at_call 45; refine (drain_each HA.out.1 HA.out.2.1 HA.out.2.2.1 HA.out.2.2.2.1 HA.out.2.2.2.2.1 HA.out.2.2.2.2.2).mono ?_; rintro r w2 ⟨rfl, hd⟩; have HD := Aside0.mk hd; clear hd)
  exact bodyPost_end (results_none rfl _ _ _) rfl ⟨rfl, HD.out⟩
theorem Ob.setI {w : World} {go base c g : Nat} {v : Value} {xs : List Value} {C : Array Value} (h : Ob w go base v c xs) (hg : w.heap[g]? = some (.cells C 3 (0, 0))) (u : Value) : Ob (w.setCell ⟨g, 0, none⟩ u) go base v c xs :=
  ⟨(Below.heap_setCell _ _ _ _ (fun hc => by have h1 := h.box; rw [hc, hg] at h1; injection h1 with h1; injection h1 with _ h1; exact absurd h1 (by decide))).trans h.box, own_setCell h.row (own_ne h.row hg (by decide)) _⟩
def limN (most : Int) : Nat := if most < 1 ∨ 120 < most then 120 else most.toNat
theorem limN_big {most : Int} (h : most < 1 ∨ 120 < most) : limN most = 120 := if_pos h
theorem limN_in {most : Int} (h : ¬ (most < 1 ∨ 120 < most)) : (limN most : Int) = most ∧ 0 < limN most ∧ limN most ≤ 120 := by
  unfold limN
  rw [if_neg h]
  omega
def ltC (most : Int) : Bool × Bool := (decide (most < 1), decide (most > 120))
set_option maxRecDepth 100000 in
set_option maxHeartbeats 2000000 in
theorem drain_calls {w : World} {b mb B : Nat} {nx : Int} {M : List En} (h : Ax w b mb B nx M) (most : Int) : Calls Try.prog 11 #[.pointer (some ⟨b, 0, none⟩), .int .i64 most] w fun r w' => ∃ v, r = .returned v ∧ w'.ownsRow w.heap.size 27 2 v (seqN (limN most) M).length (fT (seqN (limN most) M)) ∧ Ax w' b mb B nx (leftN (limN most) M) ∧ Ag b mb B w w' := by
  have HLT := Aside0.mk h.lt
  have HA := Aside0.mk h
  have HB1 : Aside0 (Below w.heap.size w (((w.alloc (.cells #[.int .i64 most] 3)).alloc (.cells #[.slice none 0 0] 36)).alloc (.cells #[.pointer (some ⟨b, 0, none⟩)] 23))) := ⟨(((Below.refl _ _).alloc (Nat.le_refl _) _).alloc (by simp) _).alloc (by simp; omega) _⟩
  have s1 : (w.alloc (.cells #[.int .i64 most] 3)).heap.size = w.heap.size + 1 := size_alloc1 _ _
  have s2 : ((w.alloc (.cells #[.int .i64 most] 3)).alloc (.cells #[.slice none 0 0] 36)).heap.size = w.heap.size + 1 + 1 := by rw [size_alloc1, s1]
  have HX : Aside0 ((((w.alloc (.cells #[.int .i64 most] 3)).alloc (.cells #[.slice none 0 0] 36)).alloc (.cells #[.pointer (some ⟨b, 0, none⟩)] 23)).heap[w.heap.size]? = some (.cells #[.int .i64 most] 3 (0, 0)) ∧ (((w.alloc (.cells #[.int .i64 most] 3)).alloc (.cells #[.slice none 0 0] 36)).alloc (.cells #[.pointer (some ⟨b, 0, none⟩)] 23)).heap[w.heap.size + 1]? = some (.cells #[.slice none 0 0] 36 (0, 0)) ∧ (((w.alloc (.cells #[.int .i64 most] 3)).alloc (.cells #[.slice none 0 0] 36)).alloc (.cells #[.pointer (some ⟨b, 0, none⟩)] 23)).heap[w.heap.size + 1 + 1]? = some (.cells #[.pointer (some ⟨b, 0, none⟩)] 23 (0, 0))) := ⟨by
    refine ⟨obj_below ((Below.refl _ _).alloc (Nat.le_refl _) _) (obj_below ((Below.refl _ _).alloc (Nat.le_refl _) _) (World.alloc_heap_new _ _)), obj_below ((Below.refl _ _).alloc (Nat.le_refl _) _) ?_, ?_⟩
    · have := World.alloc_heap_new (w.alloc (.cells #[.int .i64 most] 3)) (.cells #[.slice none 0 0] 36)
      rwa [s1] at this
    · have := World.alloc_heap_new ((w.alloc (.cells #[.int .i64 most] 3)).alloc (.cells #[.slice none 0 0] 36)) (.cells #[.pointer (some ⟨b, 0, none⟩)] 23)
      rwa [s2] at this⟩
  clear s1 s2 h
  have qF : ∀ (w : World) (g : Nat), (binOp .eql 69 (.func (.func 44) #[] #[.pointer (some ⟨g, 0, none⟩)]) .nilFunc).run Try.prog w = .ok (.bool false) w := fun _ _ => by kernel_rfl
  go_enter Try.func11, Try.ntmps11
  go_upto_region 3 with (go_at_call 30; refine (Drain_calls b _).mono ?_; rintro r w2 ⟨rfl, rfl⟩)
  generalize ((w.alloc (.cells #[.int .i64 most] 3)).alloc (.cells #[.slice none 0 0] 36)).alloc (.cells #[.pointer (some ⟨b, 0, none⟩)] 23) = w1 at HB1 HX ⊢
  have hx0 := HX.out.1
  have x0 : w1.cell? ⟨w.heap.size, 0, none⟩ = some (.int .i64 most) := by simp only [World.cell?, hx0]; rfl
  have f0 : w1.frozen? ⟨w.heap.size, 0, none⟩ = false := by simp [World.frozen?, hx0]
  clear hx0
  by_cases hlow : most < 1
  · have HLN : Aside0 (limN most = 120) := ⟨limN_big (Or.inl hlow)⟩
    have HLM : Aside0 (0 < 120 ∧ 120 ≤ 1000) := ⟨by decide, by decide⟩
    have q1 : decide (most < 1) = true := decide_eq_true hlow
    go_upto_region 7 with fail
    have HJ : Aside0 (DrJ b mb B (w.heap.size + 1) w.heap.size 120 w [] (w1.setCell ⟨w.heap.size, 0, none⟩ (.int .i64 120)) ∧ Ax (w1.setCell ⟨w.heap.size, 0, none⟩ (.int .i64 120)) b mb B nx M ∧ (w1.setCell ⟨w.heap.size, 0, none⟩ (.int .i64 120)).heap[w.heap.size + 1 + 1]? = some (.cells #[.pointer (some ⟨b, 0, none⟩)] 23 (0, 0))) := ⟨⟨⟨_, (Ob.setI ⟨HX.out.2.1, World.ownsRow_nil _ _ _ _⟩ HX.out.1 _)⟩, blk_set HX.out.1 0 _, (Ag.of_below HB1.out).setNew (Nat.le_refl _) 0 [.int .i64 120], by omega, by omega⟩, (HA.out.below HB1.out).far HX.out.1 ⟨by decide, by decide, by decide⟩ 0 [.int .i64 120], (Below.heap_setCell _ _ _ _ (by show w.heap.size + 1 + 1 ≠ w.heap.size; omega)).trans HX.out.2.2⟩
    clear x0 f0
    generalize w1.setCell ⟨w.heap.size, 0, none⟩ (.int .i64 120) = w3 at HJ ⊢
    go_wp2_with (go_at_call 44; refine (drain44_calls HJ.out.2.1 HLT.out.1 HLT.out.2 HLM.out.1 HLM.out.2 HJ.out.1 HJ.out.2.2).mono ?_; rintro r w4 ⟨rfl, hd⟩; have HD := Aside0.mk hd; clear hd; obtain ⟨v, ho⟩ := HD.out.ob; have HO := Aside0.mk ho; obtain ⟨A2, c2, rfl⟩ := own_form ho.row; have hbx := ho.box; have d0 : w4.cell? ⟨w.heap.size + 1, 0, none⟩ = some (.slice A2 (seqN (120) M).length c2) := (by simp only [World.cell?, hbx]; rfl); clear ho hbx)
    refine bodyPost_ret (results_tmp rfl _ _ _) rfl ⟨_, rfl, ?_, ?_, ?_⟩
    · rw [HLN.out]; exact HO.out.row
    · rw [HLN.out]; exact HD.out.ax
    · exact HD.out.ag
  · have q1 : decide (most < 1) = false := decide_eq_false hlow
    by_cases hbig : most > 120
    · have HLN : Aside0 (limN most = 120) := ⟨limN_big (Or.inr hbig)⟩
      have HLM : Aside0 (0 < 120 ∧ 120 ≤ 1000) := ⟨by decide, by decide⟩
      have q2 : decide (most > 120) = true := decide_eq_true hbig
      go_upto_region 7 with fail
      have HJ : Aside0 (DrJ b mb B (w.heap.size + 1) w.heap.size 120 w [] (w1.setCell ⟨w.heap.size, 0, none⟩ (.int .i64 120)) ∧ Ax (w1.setCell ⟨w.heap.size, 0, none⟩ (.int .i64 120)) b mb B nx M ∧ (w1.setCell ⟨w.heap.size, 0, none⟩ (.int .i64 120)).heap[w.heap.size + 1 + 1]? = some (.cells #[.pointer (some ⟨b, 0, none⟩)] 23 (0, 0))) := ⟨⟨⟨_, (Ob.setI ⟨HX.out.2.1, World.ownsRow_nil _ _ _ _⟩ HX.out.1 _)⟩, blk_set HX.out.1 0 _, (Ag.of_below HB1.out).setNew (Nat.le_refl _) 0 [.int .i64 120], by omega, by omega⟩, (HA.out.below HB1.out).far HX.out.1 ⟨by decide, by decide, by decide⟩ 0 [.int .i64 120], (Below.heap_setCell _ _ _ _ (by show w.heap.size + 1 + 1 ≠ w.heap.size; omega)).trans HX.out.2.2⟩
      clear x0 f0
      generalize w1.setCell ⟨w.heap.size, 0, none⟩ (.int .i64 120) = w3 at HJ ⊢
      go_wp2_with (go_at_call 44; refine (drain44_calls HJ.out.2.1 HLT.out.1 HLT.out.2 HLM.out.1 HLM.out.2 HJ.out.1 HJ.out.2.2).mono ?_; rintro r w4 ⟨rfl, hd⟩; have HD := Aside0.mk hd; clear hd; obtain ⟨v, ho⟩ := HD.out.ob; have HO := Aside0.mk ho; obtain ⟨A2, c2, rfl⟩ := own_form ho.row; have hbx := ho.box; have d0 : w4.cell? ⟨w.heap.size + 1, 0, none⟩ = some (.slice A2 (seqN (120) M).length c2) := (by simp only [World.cell?, hbx]; rfl); clear ho hbx)
      refine bodyPost_ret (results_tmp rfl _ _ _) rfl ⟨_, rfl, ?_, ?_, ?_⟩
      · rw [HLN.out]; exact HO.out.row
      · rw [HLN.out]; exact HD.out.ax
      · exact HD.out.ag
    · have hlc := limN_in (fun hc => hc.elim hlow hbig)
      obtain ⟨L, hL⟩ : ∃ L, limN most = L := ⟨_, rfl⟩
      have HLN := Aside0.mk hL
      rw [hL] at hlc
      clear hL
      have HLM : Aside0 (0 < L ∧ L ≤ 1000) := ⟨by omega, by omega⟩
      have q2 : decide (most > 120) = false := decide_eq_false hbig
      go_upto_region 7 with fail
      have HJ : Aside0 (DrJ b mb B (w.heap.size + 1) w.heap.size L w [] (w1) ∧ Ax (w1) b mb B nx M ∧ (w1).heap[w.heap.size + 1 + 1]? = some (.cells #[.pointer (some ⟨b, 0, none⟩)] 23 (0, 0))) := ⟨⟨⟨_, ⟨HX.out.2.1, World.ownsRow_nil _ _ _ _⟩⟩, (by rw [hlc.1]; exact HX.out.1), Ag.of_below HB1.out, by omega, by omega⟩, HA.out.below HB1.out, HX.out.2.2⟩
      clear x0 f0
      
      go_wp2_with (go_at_call 44; refine (drain44_calls HJ.out.2.1 HLT.out.1 HLT.out.2 HLM.out.1 HLM.out.2 HJ.out.1 HJ.out.2.2).mono ?_; rintro r w4 ⟨rfl, hd⟩; have HD := Aside0.mk hd; clear hd; obtain ⟨v, ho⟩ := HD.out.ob; have HO := Aside0.mk ho; obtain ⟨A2, c2, rfl⟩ := own_form ho.row; have hbx := ho.box; have d0 : w4.cell? ⟨w.heap.size + 1, 0, none⟩ = some (.slice A2 (seqN (L) M).length c2) := (by simp only [World.cell?, hbx]; rfl); clear ho hbx)
      refine bodyPost_ret (results_tmp rfl _ _ _) rfl ⟨_, rfl, ?_, ?_, ?_⟩
      · rw [HLN.out]; exact HO.out.row
      · rw [HLN.out]; exact HD.out.ax
      · exact HD.out.ag
end Go.Proofs.Ythjppjcmapgkpaa.QAg
