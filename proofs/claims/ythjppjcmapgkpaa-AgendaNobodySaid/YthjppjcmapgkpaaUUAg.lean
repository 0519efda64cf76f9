/- Agenda: AgendaNobody. Written by a program of this repo (tools/gen_ag20.py). -/
import Derived.Test.YthjppjcmapgkpaaTKAg
namespace Go.Proofs.Ythjppjcmapgkpaa.QAg
open Go.RowKit Go.Maps Go.Proofs.YthjppjcmapgkpaaW.PrintWords Go.Proofs.YthjppjcmapgkpaaW.PrintLast Go.Proofs.YthjppjcmapgkpaaW.PrintMore
set_option linter.unusedVariables false
set_option linter.unusedSimpArgs false
attribute [local go_sem] Oper.semAt_some
theorem NB.form {w : World} {a : Value} (h : NB w a) : ∃ p, a = .pointer p := by
  rcases h with rfl | ⟨b, v, m, nx, rfl, _⟩
  · exact ⟨_, rfl⟩
  · exact ⟨_, rfl⟩
set_option maxRecDepth 100000 in
theorem Drain_any (p : Option Addr) (w : World) : Calls Try.prog 30 #[.pointer p] w fun r w' => r = .returned (.func (.func 44) #[] #[.pointer (some ⟨w.heap.size, 0, none⟩)]) ∧ w' = w.alloc (.cells #[.pointer p] 23) := by
  go_enter Try.func30, Try.ntmps30
  go_wp2
  go_ret
  exact ⟨rfl, rfl⟩
set_option maxRecDepth 100000 in
set_option maxHeartbeats 2000000 in
theorem drain_no {w : World} {a : Value} (h : NB w a) : Calls Try.prog 11 #[a, .int .i64 0] w fun r w' => r = .returned (.slice none 0 0) ∧ Below w.heap.size w w' := by
  obtain ⟨p, rfl⟩ := h.form
  have HB1 : Aside0 (Below w.heap.size w (((w.alloc (.cells #[.int .i64 0] 3)).alloc (.cells #[.slice none 0 0] 36)).alloc (.cells #[.pointer p] 23))) := ⟨(((Below.refl _ _).alloc (Nat.le_refl _) _).alloc (by simp) _).alloc (by simp; omega) _⟩
  have s1 : (w.alloc (.cells #[.int .i64 0] 3)).heap.size = w.heap.size + 1 := size_alloc1 _ _
  have s2 : ((w.alloc (.cells #[.int .i64 0] 3)).alloc (.cells #[.slice none 0 0] 36)).heap.size = w.heap.size + 1 + 1 := by rw [size_alloc1, s1]
  have HX : Aside0 ((((w.alloc (.cells #[.int .i64 0] 3)).alloc (.cells #[.slice none 0 0] 36)).alloc (.cells #[.pointer p] 23)).heap[w.heap.size]? = some (.cells #[.int .i64 0] 3 (0, 0)) ∧ (((w.alloc (.cells #[.int .i64 0] 3)).alloc (.cells #[.slice none 0 0] 36)).alloc (.cells #[.pointer p] 23)).heap[w.heap.size + 1]? = some (.cells #[.slice none 0 0] 36 (0, 0)) ∧ (((w.alloc (.cells #[.int .i64 0] 3)).alloc (.cells #[.slice none 0 0] 36)).alloc (.cells #[.pointer p] 23)).heap[w.heap.size + 1 + 1]? = some (.cells #[.pointer p] 23 (0, 0))) := ⟨by
    refine ⟨obj_below ((Below.refl _ _).alloc (Nat.le_refl _) _) (obj_below ((Below.refl _ _).alloc (Nat.le_refl _) _) (World.alloc_heap_new _ _)), obj_below ((Below.refl _ _).alloc (Nat.le_refl _) _) ?_, ?_⟩
    · have := World.alloc_heap_new (w.alloc (.cells #[.int .i64 0] 3)) (.cells #[.slice none 0 0] 36)
      rwa [s1] at this
    · have := World.alloc_heap_new ((w.alloc (.cells #[.int .i64 0] 3)).alloc (.cells #[.slice none 0 0] 36)) (.cells #[.pointer p] 23)
      rwa [s2] at this⟩
  have HA := Aside0.mk (h.below HB1.out)
  clear s1 s2 h
  have qF : ∀ (w : World) (g : Nat), (binOp .eql 69 (.func (.func 44) #[] #[.pointer (some ⟨g, 0, none⟩)]) .nilFunc).run Try.prog w = .ok (.bool false) w := fun _ _ => by kernel_rfl
  go_enter Try.func11, Try.ntmps11
  go_upto_region 3 with (go_at_call 30; refine (Drain_any p _).mono ?_; rintro r w2 ⟨rfl, rfl⟩)
  generalize ((w.alloc (.cells #[.int .i64 0] 3)).alloc (.cells #[.slice none 0 0] 36)).alloc (.cells #[.pointer p] 23) = w1 at HB1 HX HA ⊢
  have hx0 := HX.out.1
  have x0 : w1.cell? ⟨w.heap.size, 0, none⟩ = some (.int .i64 0) := by simp only [World.cell?, hx0]; rfl
  have f0 : w1.frozen? ⟨w.heap.size, 0, none⟩ = false := by simp [World.frozen?, hx0]
  clear hx0
  go_upto_region 7 with fail
  have HN : Aside0 (NB (w1.setCell ⟨w.heap.size, 0, none⟩ (.int .i64 120)) (.pointer p) ∧ (w1.setCell ⟨w.heap.size, 0, none⟩ (.int .i64 120)).heap[w.heap.size + 1 + 1]? = some (.cells #[.pointer p] 23 (0, 0)) ∧ (w1.setCell ⟨w.heap.size, 0, none⟩ (.int .i64 120)).heap[w.heap.size + 1]? = some (.cells #[.slice none 0 0] 36 (0, 0)) ∧ Below w.heap.size w (w1.setCell ⟨w.heap.size, 0, none⟩ (.int .i64 120))) := ⟨by
    refine ⟨?_, (Below.heap_setCell _ _ _ _ (by show w.heap.size + 1 + 1 ≠ w.heap.size; omega)).trans HX.out.2.2, (Below.heap_setCell _ _ _ _ (by show w.heap.size + 1 ≠ w.heap.size; omega)).trans HX.out.2.1, HB1.out.setCell (p := ⟨w.heap.size, 0, none⟩) (Nat.le_refl _) _⟩
    rcases HA.out with h | ⟨b, v, m, nx, h1, h2⟩
    · exact Or.inl h
    · refine Or.inr ⟨b, v, m, nx, h1, (Below.heap_setCell _ _ _ _ (fun hc => ?_)).trans h2⟩
      have h3 := HX.out.1
      rw [hc] at h2
      rw [h3] at h2
      injection h2 with h2
      injection h2 with _ h2
      exact absurd h2 (by decide)⟩
  clear x0 f0 HA HX HB1
  generalize w1.setCell ⟨w.heap.size, 0, none⟩ (.int .i64 120) = w3 at HN ⊢
  go_wp2_with (go_at_call 44; refine (drain44_no HN.out.1 _ HN.out.2.1).mono ?_; rintro r w4 ⟨rfl, hl⟩; have HD := Aside0.mk (And.intro (obj_below hl HN.out.2.2.1) (HN.out.2.2.2.trans (hl.mono HN.out.2.2.2.size))); have hbx := HD.out.1; have d0 : w4.cell? ⟨w.heap.size + 1, 0, none⟩ = some (.slice none 0 0) := (by simp only [World.cell?, hbx]; rfl); clear hl hbx)
  exact bodyPost_ret (results_tmp rfl _ _ _) rfl ⟨rfl, HD.out.2⟩
set_option maxRecDepth 100000 in
theorem New_nil (w : World) : Calls Try.prog 8 #[.nilFunc] w fun r w' => r = .returned (.pointer (some ⟨w.heap.size + 1, 0, none⟩)) ∧ Below w.heap.size w w' ∧ NB w' (.pointer (some ⟨w.heap.size + 1, 0, none⟩)) := by
  have hmm := @run_makeMap Try.prog
  go_enter Try.func8, Try.ntmps8
  go_wp2
  go_ret
  have hb : Below w.heap.size w (w.alloc (Obj.map #[] 0)) := (Below.refl _ _).alloc (Nat.le_refl _) _
  exact ⟨rfl, hb.alloc hb.size _, Or.inr ⟨_, _, _, _, rfl, heap_alloc2_new w (Obj.map #[] 0) _⟩⟩
set_option maxRecDepth 100000 in
set_option maxHeartbeats 4000000 in
theorem Order_no {w : World} {g : Nat} (k m : Int) (hg : w.heap[g]? = some (.cells #[.int .i8 k, .int .i64 m] 27 (0, 0))) : Calls Try.prog 23 #[.nilFunc, .slice (some ⟨g, 0, none⟩) 1 1] w fun r w' => (∃ A c, r = .returned (.slice A 0 c)) ∧ Below w.heap.size w w' := by
  have HG := Aside0.mk hg
  clear hg
  refine (callsIn_wide (n := 3)).1 ?_
  refine callsIn_of_wp_marks Try.func23 rfl trivial ?_ rfl
  simp only [Try.ntmps23, List.size_toArray, List.length_cons, List.length_nil, Nat.reduceAdd, Nat.reduceSub, Array.replicate_succ, Array.replicate_zero, List.push_toArray, List.append_toArray, List.nil_append, List.cons_append]
  refine (wpIn_wide (n := 3)).2 ?_
  go_upto_region 3 with (go_at_call 8; refine (New_nil _).mono ?_; rintro r w1 ⟨rfl, hl, hx⟩; have H1 := Aside0.mk (And.intro hx hl); clear hl hx)
  have HBB : Aside0 (w.heap.size ≤ w.heap.size + 1) := ⟨Nat.le_succ _⟩
  generalize w.heap.size + 1 = b at H1 HBB ⊢
  go_loopw [14] (fun i wr => ∃ i0 : Nat, i0 ≤ 1 ∧ i = .int .i64 (i0 : Int) ∧ Aside0 (NB wr (.pointer (some ⟨b, 0, none⟩)) ∧ Below w.heap.size w wr)) (fun i _ => 1 - (intOf i).toNat)
  case atStart => exact ⟨0, Nat.zero_le _, rfl, H1⟩
  case round =>
    clear H1
    obtain ⟨i, hil, rfl, HS⟩ := hrel
    by_cases hlt : i < 1
    · obtain rfl : i = 0 := by omega
      have hbw := obj_below HS.out.2 HG.out
      have x0 : wr.cell? ⟨g, 0, none⟩ = some (.int .i8 k) := by simp only [World.cell?, hbw]; rfl
      have x1 : wr.cell? ⟨g, 1, none⟩ = some (.int .i64 m) := by simp only [World.cell?, hbw]; rfl
      clear hbw hlt
      have HB1 : Aside0 (NB (wr.alloc (.cells (aT k m) 27)) (.pointer (some ⟨b, 0, none⟩)) ∧ Below w.heap.size w (wr.alloc (.cells (aT k m) 27))) := ⟨HS.out.1.below ((Below.refl _ _).alloc (Nat.le_refl _) _), HS.out.2.alloc HS.out.2.size _⟩
      go_upto_region 5 with fail
      have hbx : (wr.alloc (.cells (aT k m) 27)).heap[wr.heap.size]? = some (.cells (aT k m) 27 (0, 0)) := World.alloc_heap_new _ _
      obtain ⟨z0, z1⟩ := blk2 hbx
      clear hbx x0 x1
      try change Code.wp _ _ _ _ (wr.alloc (.cells (aT k m) 27))
      generalize wr.alloc (.cells (aT k m) 27) = w2 at HB1 z0 z1 ⊢
      generalize wr.heap.size = g7 at z0 z1 ⊢
      go_wp2_with (go_at_call 15; refine (Push_no HB1.out.1 k m).mono ?_; rintro r w3 ⟨rfl, hl⟩; have HB3 := Aside0.mk (And.intro (HB1.out.1.below hl) (HB1.out.2.trans (hl.mono HB1.out.2.size))); clear hl)
      go_roundw
      case rel => exact ⟨1, Nat.le_refl _, rfl, HB3⟩
      case measure => simp [intOf]
    · obtain rfl : i = 1 := by omega
      clear hlt hil
      have s1 : (wr.alloc (.cells #[.slice none 0 0] 36)).heap.size = wr.heap.size + 1 := size_alloc1 _ _
      have HBW : Below wr.heap.size wr ((wr.alloc (.cells #[.slice none 0 0] 36)).alloc (.cells #[.pointer (some ⟨b, 0, none⟩)] 23)) := ((Below.refl _ _).alloc (Nat.le_refl _) _).alloc (by simp) _
      have HAX := Aside0.mk (And.intro (HS.out.1.below HBW) (And.intro (HS.out.2.trans (HBW.mono HS.out.2.size)) HS.out.2.size))
      have hbl : b < wr.heap.size := by
        rcases HS.out.1 with h | ⟨b', v, m', nx, h1, h2⟩
        · cases h
        · injection h1 with h1; injection h1 with h1; injection h1 with h1; subst h1; exact (Array.getElem?_eq_some_iff.1 h2).1
      have HGO : Aside0 (((wr.alloc (.cells #[.slice none 0 0] 36)).alloc (.cells #[.pointer (some ⟨b, 0, none⟩)] 23)).heap[wr.heap.size]? = some (.cells #[.slice none 0 0] 36 (0, 0)) ∧ ((wr.alloc (.cells #[.slice none 0 0] 36)).alloc (.cells #[.pointer (some ⟨b, 0, none⟩)] 23)).heap[wr.heap.size + 1]? = some (.cells #[.pointer (some ⟨b, 0, none⟩)] 23 (0, 0)) ∧ wr.heap.size ≠ b ∧ b < ((wr.alloc (.cells #[.slice none 0 0] 36)).alloc (.cells #[.pointer (some ⟨b, 0, none⟩)] 23)).heap.size ∧ wr.heap.size < ((wr.alloc (.cells #[.slice none 0 0] 36)).alloc (.cells #[.pointer (some ⟨b, 0, none⟩)] 23)).heap.size) := ⟨by
        have h9 := HBW.size
        refine ⟨obj_below ((Below.refl _ _).alloc (Nat.le_refl _) _) (World.alloc_heap_new _ _), ?_, by omega, by omega, by rw [size_alloc1, s1]; omega⟩
        have := World.alloc_heap_new (wr.alloc (.cells #[.slice none 0 0] 36)) (.cells #[.pointer (some ⟨b, 0, none⟩)] 23)
        rwa [s1] at this⟩
      clear s1 HBW hbl
      go_wp2_with (go_at_call 30; refine (Drain_calls b _).mono ?_; rintro r w2 ⟨rfl, rfl⟩)
      generalize ((wr.alloc (.cells #[.slice none 0 0] 36)).alloc (.cells #[.pointer (some ⟨b, 0, none⟩)] 23)) = w2 at HAX HGO ⊢
      generalize wr.heap.size + 1 = gb at HGO ⊢
      generalize wr.heap.size = go at HGO HAX ⊢
      refine (wpIn_wide (n := 3)).1 ?_
      refine range_own (go := go) (b := b) (mb := b) (B := w2.heap.size) (n := 3) (by decide) (gf := 44) (lb := #[.pointer (some ⟨gb, 0, none⟩)]) (by rfl) (enters_of Try.func44 (by kernel_rfl) rfl) 0 (fun x => #[.agg (aT x.key x.mark)]) (fun _ => rfl) HGO.out.2.2.2.1 HGO.out.2.2.2.1
        (fun xs _ => xs = []) (fun pre W => (∃ v, Ob W go w2.heap.size v pre.length (fT pre)) ∧ Below w.heap.size w W ∧ w2.heap.size ≤ W.heap.size) ?seq ?tr ?box ?rec (fun _ _ _ _ _ h _ _ => h) ?start ?round ?done
      case seq =>
        intro l2 J W hbW hJ hF h0 hY
        refine callsIn_wide.2 ((drain44_no (HAX.out.1.below hbW) _ (obj_below hbW HGO.out.2.1)).mono ?_)
        rintro r W' ⟨rfl, hl⟩
        exact ⟨⟨_, rfl⟩, [], rfl, hJ [] W W' h0 (Tr.of_below hl)⟩
      case tr =>
        rintro pre W W' n1 hn1 ⟨⟨v, hv⟩, hb⟩ k
        have hsz : w.heap.size ≤ n1 := Nat.le_trans HAX.out.2.1.size hn1
        exact ⟨⟨v, hv.tr2 k HGO.out.2.2.2.1 HGO.out.2.2.2.1 HGO.out.2.2.1 HGO.out.2.2.1⟩, hb.1.trans (k.below HBB.out HBB.out HAX.out.2.1.size hsz hb.1.size), Nat.le_trans hb.2 k.size⟩
      case box =>
        rintro pre W ⟨⟨v, hv⟩, hb⟩
        exact ⟨v, hv.box, fun i hi => own_lt hv.row hi⟩
      case rec =>
        rintro pre W l2 r r' ⟨⟨v, hv⟩, hb⟩ hl2 hl3
        have hne : go ≠ l2 := fun hc => by have := hv.box; rw [hc, hl3] at this; cases this
        exact ⟨⟨v, (World.putObj_heap_other hne).trans hv.box, ownsRow_putObj hv.row _ hl3 rfl⟩, hb.1.trans (belowK_b (w := w2) HAX.out.2.1.size W l2 _ _ hl2 hl3 rfl rfl), by simpa using hb.2⟩
      case start => exact ⟨⟨_, HGO.out.1, World.ownsRow_nil _ _ _ _⟩, HAX.out.2.1, Nat.le_refl _⟩
      case round =>
        rintro l2 pre x W _ hlen
        exact absurd hlen (Nat.not_lt_zero _)
      case done =>
        rintro D xs W hD rfl ⟨⟨v, hv⟩, hb⟩ hd
        (try simp only [Exit.inBlock, Exit.then])
        have hbx := hv.box
        obtain ⟨A2, c2, rfl⟩ := own_form hv.row
        have d0 : W.cell? ⟨go, 0, none⟩ = some (.slice A2 0 c2) := by simp only [World.cell?, hbx]; rfl
        have HFIN : Aside0 (Below w.heap.size w (W.putObj D (Obj.deferred none))) := ⟨hb.1.trans (belowK_b (w := w2) HAX.out.2.1.size W D _ _ hD hd rfl rfl)⟩
        clear hbx
        go_wp2
        refine ⟨by simp, .inl ⟨_, _, rfl, run_takeDeferred hd, ?_⟩⟩
        exact ⟨_, results_tmp rfl _ _ _, ⟨A2, c2, rfl⟩, HFIN.out⟩
/-- The three agendas in their row. -/
def ThrI (W : World) (ga : Nat) (p1 p2 : Option Addr) (gO : Nat) (kd k m id n : Int) (wr : World) : Prop := Below W.heap.size W wr ∧ wr.heap[ga]? = some (.cells #[.pointer none, .pointer p1, .pointer p2] 23 (0, 0)) ∧ NB wr (.pointer p1) ∧ NB wr (.pointer p2) ∧ wr.heap[gO]? = some (.cells (aO kd k m id n) 35 (0, 0))
theorem ThrI.below {W w w' : World} {ga : Nat} {p1 p2 : Option Addr} {gO : Nat} {kd k m id n : Int} (h : ThrI W ga p1 p2 gO kd k m id n w) (j : Below w.heap.size w w') : ThrI W ga p1 p2 gO kd k m id n w' := ⟨h.1.trans (j.mono h.1.size), obj_below j h.2.1, h.2.2.1.below j, h.2.2.2.1.below j, obj_below j h.2.2.2.2⟩
theorem ThrI.at {W w : World} {ga : Nat} {p1 p2 : Option Addr} {gO : Nat} {kd k m id n : Int} (h : ThrI W ga p1 p2 gO kd k m id n w) {i : Nat} (hi : i < 3) : ∃ p, w.cell? ⟨ga, i, none⟩ = some (.pointer p) ∧ NB w (.pointer p) := by
  have h2 := h.2.1
  match i, hi with
  | 0, _ => exact ⟨none, by simp only [World.cell?, h2]; rfl, Or.inl rfl⟩
  | 1, _ => exact ⟨p1, by simp only [World.cell?, h2]; rfl, h.2.2.1⟩
  | 2, _ => exact ⟨p2, by simp only [World.cell?, h2]; rfl, h.2.2.2.1⟩
set_option maxRecDepth 100000 in
set_option maxHeartbeats 8000000 in
theorem AgendaNobody_hand (kd k m id n : Int) (W : World) {p0 : Prop} (_ : p0) : Calls Try.prog 7 #[.agg (aO kd k m id n)] W fun e w' => e = .returned (.bool true) ∧ Below W.heap.size W w' := by
  have hmm := @run_makeMap Try.prog
  have HW1 : Aside0 (Below W.heap.size W ((W.alloc (.cells (aO kd k m id n) 35)).alloc (.cells #[.slice none 0 0, .nilFunc, .map none, .int .i64 0] 63)) ∧ ((W.alloc (.cells (aO kd k m id n) 35)).alloc (.cells #[.slice none 0 0, .nilFunc, .map none, .int .i64 0] 63)).heap[W.heap.size]? = some (.cells (aO kd k m id n) 35 (0, 0)) ∧ NB ((W.alloc (.cells (aO kd k m id n) 35)).alloc (.cells #[.slice none 0 0, .nilFunc, .map none, .int .i64 0] 63)) (.pointer (some ⟨W.heap.size + 1, 0, none⟩))) := ⟨((Below.refl _ _).alloc (Nat.le_refl _) _).alloc (by simp) _, obj_below ((Below.refl _ _).alloc (Nat.le_refl _) _) (World.alloc_heap_new _ _), Or.inr ⟨_, _, _, _, rfl, by have := World.alloc_heap_new (W.alloc (.cells (aO kd k m id n) 35)) (.cells #[.slice none 0 0, .nilFunc, .map none, .int .i64 0] 63); rwa [size_alloc1] at this⟩⟩
  go_enter Try.func7, Try.ntmps7
  go_upto_region 3 with (go_at_call 8; refine (New_nil _).mono ?_; rintro r w2 ⟨rfl, hl, hx⟩; have H2 := Aside0.mk (And.intro hl hx); clear hl hx)
  have HT0 : Aside0 (ThrI W w2.heap.size (some ⟨W.heap.size + 1, 0, none⟩) (some ⟨W.heap.size + 1 + 1 + 1, 0, none⟩) W.heap.size kd k m id n (w2.alloc (.cells #[.pointer none, .pointer (some ⟨W.heap.size + 1, 0, none⟩), .pointer (some ⟨W.heap.size + 1 + 1 + 1, 0, none⟩)] 23))) := ⟨by
    have h3 : Below w2.heap.size w2 (w2.alloc (.cells #[.pointer none, .pointer (some ⟨W.heap.size + 1, 0, none⟩), .pointer (some ⟨W.heap.size + 1 + 1 + 1, 0, none⟩)] 23)) := (Below.refl _ _).alloc (Nat.le_refl _) _
    have h4 := H2.out.2
    rw [size_alloc1, size_alloc1] at h4
    exact ⟨(HW1.out.1.trans (H2.out.1.mono HW1.out.1.size)).trans (h3.mono (HW1.out.1.trans (H2.out.1.mono HW1.out.1.size)).size), World.alloc_heap_new _ _, (HW1.out.2.2.below H2.out.1).below h3, h4.below h3, obj_below h3 (obj_below H2.out.1 HW1.out.2.1)⟩⟩
  try change Code.wp _ _ _ _ (w2.alloc (.cells #[.pointer none, .pointer (some ⟨W.heap.size + 1, 0, none⟩), .pointer (some ⟨W.heap.size + 1 + 1 + 1, 0, none⟩)] 23))
  clear H2 HW1
  generalize w2.alloc (.cells #[.pointer none, .pointer (some ⟨W.heap.size + 1, 0, none⟩), .pointer (some ⟨W.heap.size + 1 + 1 + 1, 0, none⟩)] 23) = w3 at HT0 ⊢
  generalize w2.heap.size = ga at HT0 ⊢
  obtain ⟨p1, hp1⟩ : ∃ p1, p1 = some (⟨W.heap.size + 1, 0, none⟩ : Addr) := ⟨_, rfl⟩
  obtain ⟨p2, hp2⟩ : ∃ p2, p2 = some (⟨W.heap.size + 1 + 1 + 1, 0, none⟩ : Addr) := ⟨_, rfl⟩
  obtain ⟨gO, hgO⟩ : ∃ gO, gO = W.heap.size := ⟨_, rfl⟩
  replace HT0 : Aside0 (ThrI W ga p1 p2 gO kd k m id n w3) := ⟨by rw [hp1, hp2, hgO]; exact HT0.out⟩
  try rw [← hp2]
  try rw [← hp1]
  try rw [← hgO]
  clear hp1 hp2 hgO hmm
  go_loopw [22] (fun i wr => ∃ j : Nat, j ≤ 3 ∧ i = .int .i64 (j : Int) ∧ Aside0 (ThrI W ga p1 p2 gO kd k m id n wr)) (fun i _ => 3 - (intOf i).toNat)
  case atStart => exact ⟨0, by omega, rfl, HT0⟩
  case round =>
    clear HT0
    obtain ⟨j, hj3, rfl, HS⟩ := hrel
    by_cases hgo : j < 3
    · have d1 : decide ((j : Int) < 3) = true := decide_eq_true (by omega)
      have d2 : decide (j < 3) = true := decide_eq_true hgo
      have b1 : (0 : Int) ≤ (j : Int) := Int.natCast_nonneg j
      have b2 : (j : Int) < 3 := by omega
      have ht : ((j : Int)).toNat = j := Int.toNat_natCast j
      have hw : wrap64 ((j : Int) + 1) = (j : Int) + 1 := by unfold wrap64; omega
      have HJ : Aside0 (j + 1 ≤ 3) := ⟨hgo⟩
      have HH : Aside0 (3 - ((j : Int) + 1).toNat < 3 - ((j : Int)).toNat) := ⟨meas_nat hgo⟩
      obtain ⟨p, hc, hnb⟩ := HS.out.at hgo
      have HP := Aside0.mk hnb
      obtain ⟨o0, o1, o2, o3, o4⟩ := blkO HS.out.2.2.2.2
      clear hnb hgo hj3 o0 o3 o4
      go_upto_region 6 with (go_at_call 15; refine (Push_no HP.out k m).mono ?_; rintro r w4 ⟨rfl, hl⟩; have H4 := Aside0.mk (And.intro (HS.out.below hl) (HP.out.below hl)); clear hl)
      clear hc o1 o2
      go_upto_region 7 with (go_at_call 19; refine (First_no H4.out.2).mono ?_; rintro r w5 ⟨rfl, hl⟩; have H5 := Aside0.mk (And.intro (H4.out.1.below hl) (H4.out.2.below hl)); clear hl)
      have H6 : Aside0 ((ThrI W ga p1 p2 gO kd k m id n (w5.alloc (.cells (aT 0 0) 27)) ∧ NB (w5.alloc (.cells (aT 0 0) 27)) (.pointer p)) ∧ (w5.alloc (.cells (aT 0 0) 27)).heap[w5.heap.size]? = some (.cells (aT 0 0) 27 (0, 0))) := ⟨⟨H5.out.1.below ((Below.refl _ _).alloc (Nat.le_refl _) _), H5.out.2.below ((Below.refl _ _).alloc (Nat.le_refl _) _)⟩, World.alloc_heap_new _ _⟩
      try change Code.wp _ _ _ _ (w5.alloc (.cells (aT 0 0) 27))
      generalize w5.alloc (.cells (aT 0 0) 27) = w6 at H6 ⊢
      generalize w5.heap.size = g6 at H6 ⊢
      clear H4 H5
      go_upto_region 8 with (go_at_call 16; refine (Pop_no H6.out.1.2).mono ?_; rintro r w7 ⟨rfl, hl⟩; have H7 := Aside0.mk (And.intro (And.intro (H6.out.1.1.below hl) (H6.out.1.2.below hl)) (obj_below hl H6.out.2)); clear hl)
      have H8 : Aside0 ((ThrI W ga p1 p2 gO kd k m id n (w7.alloc (.cells (aT 0 0) 27)) ∧ NB (w7.alloc (.cells (aT 0 0) 27)) (.pointer p)) ∧ (w7.alloc (.cells (aT 0 0) 27)).heap[g6]? = some (.cells (aT 0 0) 27 (0, 0)) ∧ (w7.alloc (.cells (aT 0 0) 27)).heap[w7.heap.size]? = some (.cells (aT 0 0) 27 (0, 0))) := ⟨⟨H7.out.1.1.below ((Below.refl _ _).alloc (Nat.le_refl _) _), H7.out.1.2.below ((Below.refl _ _).alloc (Nat.le_refl _) _)⟩, obj_below ((Below.refl _ _).alloc (Nat.le_refl _) _) H7.out.2, World.alloc_heap_new _ _⟩
      try change Code.wp _ _ _ _ (w7.alloc (.cells (aT 0 0) 27))
      generalize w7.alloc (.cells (aT 0 0) 27) = w8 at H8 ⊢
      generalize w7.heap.size = g8 at H8 ⊢
      clear H6 H7
      go_upto_region 9 with (go_at_call 21; refine (Get_no H8.out.1.2 1).mono ?_; rintro r w9 ⟨rfl, hl⟩; have H9 := Aside0.mk (And.intro (And.intro (H8.out.1.1.below hl) (H8.out.1.2.below hl)) (And.intro (obj_below hl H8.out.2.1) (obj_below hl H8.out.2.2))); clear hl)
      have H10 : Aside0 ((ThrI W ga p1 p2 gO kd k m id n (w9.alloc (.cells (aT 0 0) 27)) ∧ NB (w9.alloc (.cells (aT 0 0) 27)) (.pointer p)) ∧ (w9.alloc (.cells (aT 0 0) 27)).heap[g6]? = some (.cells (aT 0 0) 27 (0, 0)) ∧ (w9.alloc (.cells (aT 0 0) 27)).heap[g8]? = some (.cells (aT 0 0) 27 (0, 0)) ∧ (w9.alloc (.cells (aT 0 0) 27)).heap[w9.heap.size]? = some (.cells (aT 0 0) 27 (0, 0))) := ⟨⟨H9.out.1.1.below ((Below.refl _ _).alloc (Nat.le_refl _) _), H9.out.1.2.below ((Below.refl _ _).alloc (Nat.le_refl _) _)⟩, obj_below ((Below.refl _ _).alloc (Nat.le_refl _) _) H9.out.2.1, obj_below ((Below.refl _ _).alloc (Nat.le_refl _) _) H9.out.2.2, World.alloc_heap_new _ _⟩
      try change Code.wp _ _ _ _ (w9.alloc (.cells (aT 0 0) 27))
      generalize w9.alloc (.cells (aT 0 0) 27) = w10 at H10 ⊢
      generalize w9.heap.size = g10 at H10 ⊢
      clear H8 H9
      obtain ⟨o0, o1, o2, o3, o4⟩ := blkO H10.out.1.1.2.2.2.2
      clear o0 o3 o4
      go_wp2_with (first
        | (go_at_call 18; refine (Set_no H10.out.1.2 1 k m).mono ?_; rintro r w11 ⟨rfl, hl⟩; have H11 := Aside0.mk (And.intro (And.intro (H10.out.1.1.below hl) (H10.out.1.2.below hl)) (And.intro (obj_below hl H10.out.2.1) (And.intro (obj_below hl H10.out.2.2.1) (obj_below hl H10.out.2.2.2)))); clear hl; clear o1 o2; have xx := H11.out.2.1; have yy := H11.out.2.2.1; have zz := H11.out.2.2.2; obtain ⟨x0, x1⟩ := blk2 xx; obtain ⟨y0, y1⟩ := blk2 yy; obtain ⟨z0, z1⟩ := blk2 zz; clear xx yy zz)
        | (go_at_call 17; refine (Drop_no H11.out.1.2 1).mono ?_; rintro r w12 ⟨rfl, hw12⟩; replace hw12 := hw12.symm; subst hw12)
        | (go_at_call 12; refine (Len_no H11.out.1.2).mono ?_; rintro r w13 ⟨rfl, hw13⟩; replace hw13 := hw13.symm; subst hw13)
        | (go_at_call 11; refine (drain_no H11.out.1.2).mono ?_; rintro r w14 ⟨rfl, hl⟩; have H14 := Aside0.mk (H11.out.1.1.below hl); clear hl))
      go_roundw
      case rel => exact ⟨j + 1, HJ.out, (by first | rfl | (rw [hw]; rfl)), H14⟩
      case measure => first | exact HH.out | (simp only [hw]; exact HH.out)
    · have d1 : decide ((j : Int) < 3) = false := decide_eq_false (by omega)
      have d2 : decide (j < 3) = false := decide_eq_false hgo
      clear hgo hj3
      obtain ⟨o0, o1, o2, o3, o4⟩ := blkO HS.out.2.2.2.2
      clear o0 o3 o4
      have HTB : Aside0 ((wr.alloc (.cells #[.int .i8 k, .int .i64 m] 27)).heap[wr.heap.size]? = some (.cells #[.int .i8 k, .int .i64 m] 27 (0, 0)) ∧ Below W.heap.size W (wr.alloc (.cells #[.int .i8 k, .int .i64 m] 27))) := ⟨World.alloc_heap_new _ _, HS.out.1.alloc HS.out.1.size _⟩
      go_wp2_with (first
        | (go_at_call 23; refine (Order_no k m HTB.out.1).mono ?_; rintro r w4 ⟨⟨A4, c4, rfl⟩, hl⟩; have H4 := Aside0.mk (HTB.out.2.trans (hl.mono HTB.out.2.size)); clear hl)
        | (go_at_call 13; refine (alive_calls _).mono ?_; rintro e w5 ⟨rfl, hl5⟩; have HAL := Aside0.mk (H4.out.trans (hl5.mono H4.out.size)); clear hl5))
      go_ret
      exact ⟨rfl, HAL.out⟩
end Go.Proofs.Ythjppjcmapgkpaa.QAg
