/- Agenda: the document's Order, Same. -/
import Derived.Test.YthjppjcmapgkpaaMMAg
namespace Go.Proofs.Ythjppjcmapgkpaa.QAg
open Go.RowKit Go.Maps Go.Proofs.YthjppjcmapgkpaaW.PrintWords Go.Proofs.YthjppjcmapgkpaaW.PrintLast Go.Proofs.YthjppjcmapgkpaaW.PrintMore
set_option linter.unusedVariables false
set_option linter.unusedSimpArgs false
theorem mkM_inc : ∀ (l : List En) (i : Int), (∀ p ∈ mkM i l, i ≤ p.2.2) ∧ (mkM i l).Pairwise (fun p q => p.2.2 < q.2.2)
  | [], _ => ⟨fun p hp => (by cases hp), List.Pairwise.nil⟩
  | x :: l, i => by
    obtain ⟨h1, h2⟩ := mkM_inc l (i + 1)
    refine ⟨fun p hp => ?_, ?_⟩
    · rcases List.mem_cons.1 hp with rfl | hp
      · exact Int.le_refl _
      · have := h1 p hp; omega
    · show ((x.key, x.mark, i) :: mkM (i + 1) l).Pairwise _
      rw [List.pairwise_cons]
      exact ⟨fun p hp => by have := h1 p hp; show i < _; omega, h2⟩
theorem inc_of_strip {M : List En} {l : List En} {i : Int} (h : M.map strip = mkM i l) : M.Pairwise (fun x y => x.id < y.id) := by
  have := (mkM_inc l i).2
  rw [← h, List.pairwise_map] at this
  exact this
theorem leftN_inc : ∀ (j : Nat) (M : List En), M.Pairwise (fun x y => x.id < y.id) → (leftN j M).Pairwise (fun x y => x.id < y.id)
  | 0, M, h => h
  | j + 1, M, h => by
    cases hb : best M with
    | none => simp only [leftN, hb]; exact h
    | some y => simp only [leftN, hb]; exact leftN_inc j _ (h.sublist List.filter_sublist)
/-- The document's agenda, made since w0. -/
structure Dp (w0 : World) (rb C : Nat) (r : RS) (w : World) : Prop where
  rl : ∃ v, RL w rb C r v
  be : Below w0.heap.size w0 w
  ge : w0.heap.size ≤ rb
section
variable {w0 w w' : World} {rb C : Nat} {r r' : RS}
theorem Dp.below (h : Dp w0 rb C r w) (k : Below w.heap.size w w') : Dp w0 rb C r w' := by
  obtain ⟨v, hv⟩ := h.rl
  exact ⟨⟨v, hv.below k⟩, h.be.trans (k.mono h.be.size), h.ge⟩
theorem Dp.rn (h : Dp w0 rb C r w) (k : Rn rb C r' w w') : Dp w0 rb C r' w' := ⟨k.rl, h.be.trans (k.fr.belowN h.ge h.be.size), h.ge⟩
theorem Dp.inner {n : Nat} (h : Dp w0 rb C r w) (k : Below n w w') (hn : ∀ (i : Nat) (cur : Array Value) (t : TypeId), w.heap[i]? = some (.cells cur t (0, 0)) → (t = 32 ∨ t = 40) → w'.heap[i]? = w.heap[i]?) (hk : w0.heap.size ≤ n) : Dp w0 rb C r w' := by
  obtain ⟨v, hv⟩ := h.rl
  exact ⟨⟨v, ⟨(hn _ _ _ hv.blk (Or.inl rfl)).trans hv.blk, hv.row.of (fun g cur _ hg => hn _ _ _ hg (Or.inr rfl)), hv.lt, Nat.le_trans hv.sz k.size, hv.len⟩⟩, h.be.trans (k.mono hk), h.ge⟩
end
theorem own_wk {w : World} {base base' size n : Nat} {e : TypeId} {v : Value} {xs : List Value} (h : w.ownsRow base e size v n xs) (hb : base' ≤ base) : w.ownsRow base' e size v n xs := by
  refine ⟨h.1, ?_⟩
  rcases h.2 with h1 | ⟨g, cap, cur, h1, h2, h3⟩
  · exact Or.inl h1
  · exact Or.inr ⟨g, cap, cur, h1, Nat.le_trans hb h2, h3⟩
theorem own_far {w w' : World} {rb C base n : Nat} {r : RS} {v u : Value} {xs : List Value} (h : w.ownsRow base 27 2 v n xs) (hr : RL w rb C r u) (k : Far rb rb w w') : w'.ownsRow base 27 2 v n xs := own_move h (fun i hi => by
  obtain ⟨cells, hc⟩ := own_typed h i hi
  have hne : i ≠ rb := fun h0 => by rw [h0, hr.blk] at hc; injection hc with hc; injection hc with _ hc; exact absurd hc (by decide)
  exact k.block i (own_lt h hi) hne hne)
def rlenAt (w : World) (rb : Nat) : Nat := match w.cell? ⟨rb, 0, none⟩ with
  | some (.slice _ n _) => n
  | _ => 0
theorem Dp.len {w0 w : World} {rb C : Nat} {r : RS} (h : Dp w0 rb C r w) : rlenAt w rb = r.L.length := by
  obtain ⟨v, hv⟩ := h.rl
  obtain ⟨A, c, rfl, _⟩ := hv.form
  unfold rlenAt
  rw [hv.cells.1]
theorem RPop_some {w : World} {rb B : Nat} {r : RS} {v : Value} (h : RL w rb B r v) (hp : r.L.Pairwise (fun x y => x.id < y.id)) {x : En} (hx : best r.L = some x) : Calls Try.prog 27 #[.pointer (some ⟨rb, 0, none⟩)] w fun e w' => e = .returned (.tuple #[.agg (aT x.key x.mark), .int .i64 x.id, .bool true]) ∧ Rn rb B { r with L := rem r.L x.id } w w' := by
  refine (RPop_calls h hp).mono ?_
  rintro e w' (⟨y, hy, rfl, hn⟩ | ⟨hy, _⟩)
  · rw [hx] at hy
    cases hy
    exact ⟨rfl, hn⟩
  · rw [hx] at hy
    cases hy
theorem RPop_none {w : World} {rb B : Nat} {r : RS} {v : Value} (h : RL w rb B r v) (hp : r.L.Pairwise (fun x y => x.id < y.id)) (hx : best r.L = none) : Calls Try.prog 27 #[.pointer (some ⟨rb, 0, none⟩)] w fun e w' => e = .returned (.tuple #[.agg (aT 0 0), .int .i64 0, .bool false]) ∧ Rn rb B r w w' := by
  refine (RPop_calls h hp).mono ?_
  rintro e w' (⟨y, hy, _⟩ | ⟨hy, rfl, hn⟩)
  · rw [hx] at hy
    cases hy
  · exact ⟨rfl, hn⟩
/-- An append to an own row of things. -/
theorem app27 {w : World} {base c : Nat} {A : Option Addr} {cap : Nat} {xs : List Value} (h : w.ownsRow base 27 2 (.slice A c cap) c xs) (hb : base ≤ w.heap.size) (hc : c < 1000000) {g : Nat} (k m : Int) (hg : w.heap[g]? = some (.cells #[.int .i8 k, .int .i64 m] 27 (0, 0))) :
    ∃ A' cap' w', (Builtin.append_ #[36, 36] 36 #[.slice A c cap, .slice (some ⟨g, 0, none⟩) 1 1]).run Try.prog w = .ok (.slice A' (c + 1) cap') w' ∧ w'.ownsRow base 27 2 (.slice A' (c + 1) cap') (c + 1) (xs ++ [.int .i8 k, .int .i64 m]) ∧ w.grownBy w' (Value.slice A c cap).ownBlock := by
  obtain ⟨i0, h1, h2, h3, h4⟩ := info_parts info27
  obtain ⟨v', w', hrun, hown, hgrow, _⟩ := run_append_own_at (P := Try.prog) w base 36 36 27 i0 _ 2 16 Try.underlying36 h1 h2 h3 h4 rfl (by decide) _ c xs h ⟨g, 0, none⟩ 1 1 [.int .i8 k, .int .i64 m] rfl (fun j u hj => by rw [Addr.add_lit, Nat.zero_add]; simp only [World.cell?, hg]; rw [← Array.getElem?_toList]; exact hj) (by intro u hu; simp only [List.mem_cons, List.not_mem_nil, or_false] at hu; rcases hu with rfl | rfl <;> rfl) (by unfold maxLen; omega) (by omega) hb
  obtain ⟨A', cap', rfl⟩ := own_form hown
  exact ⟨A', cap', w', hrun, hown, hgrow⟩
/-- Where the document's pushing stands. -/
def DPu (w0 : World) (rb C : Nat) (l : List En) (i : Nat) (w : World) : Prop := ∃ r : RS, Dp w0 rb C r w ∧ r.last = (i : Int) ∧ r.L.map strip = mkM 1 (l.take i)
/-- Where its popping stands. -/
def DPo (w0 : World) (rb C : Nat) (last : Int) (M : List En) (n1 : Nat) (v : Value) (j : Nat) (w : World) : Prop := Dp w0 rb C ⟨last, leftN j M⟩ w ∧ (seqN j M).length = j ∧ w.ownsRow n1 27 2 v j (fT (seqN j M)) ∧ n1 ≤ w.heap.size
set_option maxRecDepth 100000 in
set_option maxHeartbeats 4000000 in
theorem ROrder_calls {w : World} {B0 : Nat} {A : Option Addr} {c : Nat} (l : List En) (hrow : RowQ w B0 27 2 (.slice A l.length c) l.length (fT l)) (hn : l.length ≤ 1000) : Calls Try.prog 25 #[.slice A l.length c] w fun r w' => OrdP l w r w' := by
  have HR := Aside0.mk hrow
  have HN := Aside0.mk hn
  clear hrow hn
  have HD0 : Aside0 (DPu w w.heap.size (w.heap.size + 1) l 0 (w.alloc (.cells #[.slice none 0 0, .int .i64 0] 32))) := ⟨⟨⟨0, []⟩, ⟨⟨_, ⟨World.alloc_heap_new _ _, RowQ.nil _ _ _ _, by omega, by rw [size_alloc1]; exact Nat.le_refl _, by decide⟩⟩, (Below.refl _ _).alloc (Nat.le_refl _) _, Nat.le_refl _⟩, rfl, rfl⟩⟩
  go_enter Try.func25, Try.ntmps25
  go_upto_region 2 with fail
  try change Code.wp _ _ _ _ (w.alloc (.cells #[.slice none 0 0, .int .i64 0] 32))
  generalize w.alloc (.cells #[.slice none 0 0, .int .i64 0] 32) = w1 at HD0 ⊢
  generalize w.heap.size + 1 = C at HD0 ⊢
  have HRB : Aside0 (∃ rb, rb = w.heap.size) := ⟨⟨_, rfl⟩⟩
  obtain ⟨rb, hrb⟩ := HRB.out
  replace HD0 : Aside0 (DPu w rb C l 0 w1) := ⟨by rw [hrb]; exact HD0.out⟩
  try rw [← hrb]
  clear hrb HRB
  go_wp2
  go_loopw [4] (fun i wr => ∃ i0 : Nat, i0 ≤ l.length ∧ i = .int .i64 (i0 : Int) ∧ Aside0 (DPu w rb C l i0 wr)) (fun i _ => l.length - (intOf i).toNat)
  case atStart => exact ⟨0, Nat.zero_le _, rfl, HD0⟩
  case round =>
    clear HD0
    obtain ⟨i, hil, rfl, HS⟩ := hrel
    by_cases hlt : i < l.length
    · have b1 : (0 : Int) ≤ (i : Int) := Int.natCast_nonneg i
      have b2 : (i : Int) < (l.length : Int) := Int.ofNat_lt.2 hlt
      have b3 : decide ((i : Int) < (l.length : Int)) = true := decide_eq_true b2
      have b4 : decide (i < l.length) = true := decide_eq_true hlt
      have ht : ((i : Int)).toNat = i := Int.toNat_natCast i
      have hwi : wrap64 ((i : Int) + 1) = (i : Int) + 1 := w64_nat (Nat.lt_of_lt_of_le hlt (Nat.le_trans HN.out (by decide)))
      have HHi : Aside0 (l.length - ((i : Int) + 1).toNat < l.length - ((i : Int)).toNat) := ⟨meas_nat hlt⟩
      have HL : Aside0 (i + 1 ≤ l.length) := ⟨hlt⟩
      have HE : Aside0 (l[i]? = some l[i]) := ⟨List.getElem?_eq_getElem hlt⟩
      obtain ⟨g, o, cap, cur, hv, y1, y2, y3, y4, y5⟩ := HR.out.lies (by omega)
      injection hv with e1 e2 e3
      subst e1 e3
      clear e2
      generalize l[i] = x at HE
      obtain ⟨r, hdp, hla, hst⟩ := HS.out
      have hbw := obj_below hdp.be y2
      have x0 : wr.cell? ⟨g, o + i * 2, none⟩ = some (.int .i8 x.key) := by
        simp only [World.cell?, hbw]
        exact y5 (i * 2) _ (by have := fT_get l i x HE.out 0 (by omega); rw [Nat.add_zero] at this; rw [this]; rfl)
      have x1 : wr.cell? ⟨g, o + i * 2 + 1, none⟩ = some (.int .i64 x.mark) := by
        simp only [World.cell?, hbw]
        rw [Nat.add_assoc]
        exact y5 (i * 2 + 1) _ (by rw [fT_get l i x HE.out 1 (by omega)]; rfl)
      have hlen : r.L.length = i := by have h1 := congrArg List.length hst; rw [List.length_map, mkM_len, List.length_take, Nat.min_eq_left (by omega)] at h1; exact h1
      obtain ⟨vr, hvr⟩ := hdp.rl
      have HP := Aside0.mk (And.intro hdp (And.intro hvr (And.intro (by have := HN.out; omega : r.L.length + 1 ≤ 100000) (And.intro (by omega : 0 ≤ r.last) (by have := HN.out; omega : r.last < 1000000)))))
      have HNX : Aside0 ((pushR r x.key x.mark).last = ((i + 1 : Nat) : Int) ∧ (pushR r x.key x.mark).L.map strip = mkM 1 (l.take (i + 1))) := ⟨by
        have e1 : l.take (i + 1) = l.take i ++ [x] := by rw [List.take_add_one, HE.out]; rfl
        refine ⟨by show r.last + 1 = _; omega, ?_⟩
        show (r.L ++ [(⟨0, r.last + 1, x.key, x.mark⟩ : En)]).map strip = _
        rw [List.map_append, hst, e1, mkM_snoc, List.length_take, Nat.min_eq_left (by omega)]
        simp only [List.map_cons, List.map_nil, strip]
        rw [hla, Int.add_comm]⟩
      clear y1 y2 y3 y4 y5 hbw hlt hdp hla hst hlen hvr
      go_wp2_with (go_at_call 26; refine (RPush_calls HP.out.2.1 HP.out.2.2.1 HP.out.2.2.2.1 HP.out.2.2.2.2 x.key x.mark).mono ?_; rintro e w3 ⟨rfl, hn⟩; have HD3 : Aside0 (DPu w rb C l (i + 1) w3) := ⟨⟨_, HP.out.1.rn hn, HNX.out⟩⟩; clear hn)
      go_roundw
      case rel => exact ⟨i + 1, HL.out, (by first | rfl | (rw [hwi]; rfl)), HD3⟩
      case measure => first | exact HHi.out | (simp only [hwi]; exact HHi.out)
    · have b3 : decide ((i : Int) < (l.length : Int)) = false := decide_eq_false (by omega)
      have b4 : decide (i < l.length) = false := decide_eq_false hlt
      obtain ⟨r, hdp, hla, hst⟩ := HS.out
      rw [show i = l.length by omega, List.take_length] at hst
      have hinc := inc_of_strip hst
      obtain ⟨last, M⟩ := r
      have HM := Aside0.mk (And.intro hst hinc)
      obtain ⟨n1, hn1⟩ : ∃ n1, n1 = wr.heap.size := ⟨_, rfl⟩
      have HP0 : Aside0 (DPo w rb C last M n1 (.slice none 0 0) 0 wr) := ⟨hdp, rfl, World.ownsRow_nil _ _ _ _, by rw [hn1]; exact Nat.le_refl _⟩
      have HN1 : Aside0 (w.heap.size ≤ n1 ∧ M.length ≤ 1000) := ⟨by rw [hn1]; exact hdp.be.size, by have h1 := congrArg List.length hst; rw [List.length_map, mkM_len] at h1; have := HN.out; show M.length ≤ 1000; simp only at h1; omega⟩
      obtain ⟨wo, hwo⟩ : ∃ wo, wo = wr := ⟨_, rfl⟩
      rw [← hwo] at HP0
      rw [← hwo]
      clear hlt hdp hla hst hinc hn1 hwo HS
      go_wp2
      go_loopw [5] (fun v wr => ∃ j : Nat, Aside0 (DPo w rb C last M n1 v j wr)) (fun _ wr => rlenAt wr rb)
      case atStart => exact ⟨0, HP0⟩
      case round =>
        clear HP0
        obtain ⟨j, HS⟩ := hrel
        obtain ⟨vr, hvr⟩ := HS.out.1.rl
        obtain ⟨Ar, cr, rfl, _⟩ := hvr.form
        have HVR := Aside0.mk hvr
        have c0 := hvr.cells.1
        obtain ⟨A5, c5, rfl⟩ := own_form HS.out.2.2.1
        clear hvr
        cases hb : best (leftN j M) with
        | none =>
          have hnil : leftN j M = [] := best_none (leftN_inc j M HM.out.2) hb
          rw [hnil] at c0
          have HE : Aside0 (OrdP l w (.returned (.slice A5 j c5)) wr) := ⟨by
            obtain ⟨e1, e2⟩ := seqN_end j M HS.out.2.1 hb M.length (by have := seqN_sum j M HM.out.2; have := HS.out.2.1; omega)
            refine ⟨_, M, rfl, HM.out.1, ?_, HS.out.1.be⟩
            rw [e1, HS.out.2.1]
            exact own_wk HS.out.2.2.1 HN1.out.1⟩
          clear hb hnil
          go_wp2
          go_ret
          exact HE.out
        | some x =>
          have HX := Aside0.mk hb
          have hpos : 0 < (leftN j M).length := List.length_pos_iff.2 (fun hc => by rw [hc] at hb; cases hb)
          have hd1 : decide (((leftN j M).length : Int) > 0) = true := decide_eq_true (by omega)
          have hd2 : decide (0 < (leftN j M).length) = true := decide_eq_true hpos
          have HSQ := Aside0.mk (seqN_succ j M x HS.out.2.1 hb)
          have HLT := Aside0.mk (seqN_lt HM.out.2 HS.out.2.1 hb)
          have HLEN : Aside0 (rlenAt wr rb = (rem (leftN j M) x.id).length + 1) := ⟨by rw [HS.out.1.len]; exact (rem_shorter (leftN_inc j M HM.out.2) hb).symm⟩
          clear hb hpos
          go_upto_region 9 with (go_at_call 27; refine (RPop_some HVR.out (leftN_inc j M HM.out.2) HX.out).mono ?_; rintro e w3 ⟨rfl, hn⟩; have HN3 := Aside0.mk hn; clear hn)
          have HD3 : Aside0 (Dp w rb C ⟨last, leftN (j + 1) M⟩ w3 ∧ w3.ownsRow n1 27 2 (.slice A5 j c5) j (fT (seqN j M)) ∧ n1 ≤ w3.heap.size) := ⟨by rw [HSQ.out.2.1]; exact HS.out.1.rn HN3.out, own_far HS.out.2.2.1 HVR.out HN3.out.fr, Nat.le_trans HS.out.2.2.2 HN3.out.fr.size⟩
          have HD4 : Aside0 (Dp w rb C ⟨last, leftN (j + 1) M⟩ (w3.alloc (.cells (aT x.key x.mark) 27)) ∧ (w3.alloc (.cells (aT x.key x.mark) 27)).ownsRow n1 27 2 (.slice A5 j c5) j (fT (seqN j M)) ∧ n1 ≤ (w3.alloc (.cells (aT x.key x.mark) 27)).heap.size) := ⟨HD3.out.1.below ((Below.refl _ _).alloc (Nat.le_refl _) _), HD3.out.2.1.alloc _, by rw [size_alloc1]; have := HD3.out.2.2; omega⟩
          have hbx : (w3.alloc (.cells (aT x.key x.mark) 27)).heap[w3.heap.size]? = some (.cells (aT x.key x.mark) 27 (0, 0)) := World.alloc_heap_new _ _
          try change Code.wp _ _ _ _ (w3.alloc (.cells (aT x.key x.mark) 27))
          clear HN3 HD3 HVR c0 hd1 hd2
          generalize w3.alloc (.cells (aT x.key x.mark) 27) = w4 at HD4 hbx ⊢
          generalize w3.heap.size = g6 at hbx ⊢
          have x0 : w4.cell? ⟨g6, 0, none⟩ = some (.int .i8 x.key) := by simp only [World.cell?, hbx]; rfl
          have x1 : w4.cell? ⟨g6, 1, none⟩ = some (.int .i64 x.mark) := by simp only [World.cell?, hbx]; rfl
          clear hbx
          have hB5 : Below w4.heap.size w4 (w4.alloc (.cells #[.int .i8 x.key, .int .i64 x.mark] 27)) := (Below.refl _ _).alloc (Nat.le_refl _) _
          obtain ⟨A6, c6, w6, hrun, hown, hgrow⟩ := app27 (HD4.out.2.1.alloc (.cells #[.int .i8 x.key, .int .i64 x.mark] 27)) (Nat.le_trans HD4.out.2.2 hB5.size) (by have h1 := HLT.out; have := HS.out.2.1; have := HN1.out.2; omega) x.key x.mark (World.alloc_heap_new w4 (.cells #[.int .i8 x.key, .int .i64 x.mark] 27))
          have HRUN := Aside0.mk hrun
          have HD6 : Aside0 (DPo w rb C last M n1 (.slice A6 (j + 1) c6) (j + 1) w6) := ⟨by
            refine ⟨?_, HSQ.out.2.2, by rw [HSQ.out.1, fT_snoc]; exact hown, Nat.le_trans HD4.out.2.2 (Nat.le_trans hB5.size hgrow.size)⟩
            have hD5 := HD4.out.1.below hB5
            refine hD5.inner (n := n1) ⟨hgrow.os, hgrow.tape, hgrow.output, hgrow.size, fun i hi => hgrow.block i (by have := HD4.out.2.2; have := hB5.size; omega) (fun hc => by have := own_base HD4.out.2.1 hc.symm; omega)⟩ (fun i cur t hi ht => hgrow.block i (Array.getElem?_eq_some_iff.1 hi).1 (fun hc => ?_)) HN1.out.1
            obtain ⟨cells, hc2⟩ := own_typed (HD4.out.2.1.alloc (.cells #[.int .i8 x.key, .int .i64 x.mark] 27)) i hc.symm
            rw [hi] at hc2
            injection hc2 with hc2
            injection hc2 with _ hc2
            subst hc2
            rcases ht with ht | ht <;> exact absurd ht (by decide)⟩
          clear hrun hown hgrow hB5
          go_wp2_with ((with_reducible refine gate_builtin (b := .append) rfl ?_); at_builtin; refine app_list _ rfl (.tmp 35) (.tmp 37) 36 rfl (v1 := .slice A5 j c5) (v2 := .slice (some ⟨w4.heap.size, 0, none⟩) 1 1) rfl rfl HRUN.out ?_)
          go_roundw
          case rel => exact ⟨j + 1, HD6⟩
          case measure => rw [HD6.out.1.len, HLEN.out, ← HSQ.out.2.1]; exact Nat.lt_succ_self _
end Go.Proofs.Ythjppjcmapgkpaa.QAg
