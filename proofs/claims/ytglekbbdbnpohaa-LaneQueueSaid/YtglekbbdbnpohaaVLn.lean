/- Lane: maps.Keys and its iterator, slices.AppendSeq and Collect, at numbers. -/
import Derived.Test.YtglekbbdbnpohaaMLn
import Derived.RangeFuncNested
namespace Go.Proofs.Ytglekbbdbnpohaa.QLn
open Go.RowKit Go.Maps Go.Proofs.YtglekbbdbnpohaaW.PrintWords Go.Proofs.YtglekbbdbnpohaaW.PrintLast Go.Proofs.YtglekbbdbnpohaaW.PrintMore
set_option linter.unusedVariables false
set_option linter.unusedSimpArgs false
attribute [local go_sem] Oper.semAt_some
/-- What has come, and what is still to come, are together the list. -/
def Coll (L : List (Int × Past)) (left : Lit → Bool) (ss : List Int) : Prop := (ss ++ (L.filter (fun x => left (.int .u64 x.1))).map Prod.fst).Perm (L.map Prod.fst)
theorem coll_start {D : DataW Past} {L : List (Int × Past)} (h : Lst D L) : Coll L (has D) [] := by
  unfold Coll
  rw [List.nil_append, List.filter_eq_self.2 (fun x hx => h.hasKey hx)]
theorem filt_strike : ∀ (L : List (Int × Past)) (left : Lit → Bool) (k : Int) (c : Past), (L.map Prod.fst).Nodup → (k, c) ∈ L → left (.int .u64 k) = true →
    ((L.filter (fun x => left (.int .u64 x.1))).map Prod.fst).Perm (k :: (L.filter (fun x => left (.int .u64 x.1) && !(Lit.int .u64 x.1).sameKey (.int .u64 k))).map Prod.fst)
  | [], _, _, _, _, h, _ => by simp at h
  | x :: L, left, k, c, hn, hm, hl => by
    rw [List.map_cons, List.nodup_cons] at hn
    by_cases e : x.1 = k
    · have hno : ∀ y ∈ L, (Lit.int .u64 y.1).sameKey (.int .u64 k) = false := fun y hy => by
        cases hh : (Lit.int .u64 y.1).sameKey (.int .u64 k) with
        | false => rfl
        | true => exact absurd (List.mem_map.2 ⟨y, hy, ((same_iff _ _).1 hh).trans e.symm⟩) hn.1
      have e2 : L.filter (fun x => left (.int .u64 x.1) && !(Lit.int .u64 x.1).sameKey (.int .u64 k)) = L.filter (fun x => left (.int .u64 x.1)) :=
        List.filter_congr (fun y hy => by rw [hno y hy]; simp)
      rw [List.filter_cons_of_pos (by rw [e]; exact hl), List.filter_cons_of_neg (by simp only [e, (same_iff k k).2 rfl]; simp), e2, List.map_cons, e]
    · have hm' : (k, c) ∈ L := by
        rcases List.mem_cons.1 hm with e1 | m1
        · exact absurd (by rw [← e1]) e
        · exact m1
      have ih := filt_strike L left k c hn.2 hm' hl
      have hk : (Lit.int .u64 x.1).sameKey (.int .u64 k) = false := by
        cases hh : (Lit.int .u64 x.1).sameKey (.int .u64 k) with
        | false => rfl
        | true => exact absurd ((same_iff _ _).1 hh) e
      by_cases h4 : left (.int .u64 x.1) = true
      · rw [List.filter_cons_of_pos (p := fun x : Int × Past => left (.int .u64 x.1)) h4, List.filter_cons_of_pos (by simp only [hk]; simpa using h4), List.map_cons, List.map_cons]
        exact (ih.cons _).trans (List.Perm.swap _ _ _)
      · rw [List.filter_cons_of_neg (p := fun x : Int × Past => left (.int .u64 x.1)) h4, List.filter_cons_of_neg (by simp only [hk]; simpa using h4)]
        exact ih
theorem coll_step {L : List (Int × Past)} {left : Lit → Bool} {ss : List Int} {k : Int} {c : Past} (h : Coll L left ss) (hn : (L.map Prod.fst).Nodup) (hm : (k, c) ∈ L) (hl : left (.int .u64 k) = true) :
    Coll L (fun z => left z && !z.sameKey (.int .u64 k)) (ss ++ [k]) ∧ ss.length < L.length := by
  unfold Coll at h ⊢
  have h1 := filt_strike L left k c hn hm hl
  have h2 := (h1.append_left ss).symm.trans h
  refine ⟨by rw [List.append_assoc]; exact h2, ?_⟩
  have h3 := h2.length_eq
  simp at h3
  omega
theorem coll_end {L : List (Int × Past)} {left : Lit → Bool} {ss : List Int} (h : Coll L left ss) (hl : ∀ k, left k = false) : ss.Perm (L.map Prod.fst) := by
  unfold Coll at h
  rw [List.filter_eq_nil_iff.2 (fun x _ => by rw [hl]; simp), List.map_nil, List.append_nil] at h
  exact h
set_option maxRecDepth 100000 in
set_option maxHeartbeats 2000000 in
theorem keys48_in (k0 l Bn b n : Nat) (D : DataW Past) (L : List (Int × Past)) (hL : Lst D L) (W : World) (hBn : W.cell? ⟨Bn, 0, none⟩ = some (.map (some b))) (hown : W.ownsMap Try.prog 22 Rp b n D)
    (J Jx : List Int → World → Prop) (hJ : AbidesFrom W.heap.size J) (h0 : J [] W)
    (hY : ∀ (pre : List Int) (x : Int) W1, J pre W1 → pre.length < L.length → YieldAt Fence.wide k0 Try.prog l #[.int .u64 x] W1 fun e W' => (e = .returned (.bool true) ∧ J (pre ++ [x]) W' ∧ KeepsWalks W1 W') ∨ (e = .returned (.bool false) ∧ Jx (pre ++ [x]) W')) :
    Calls Try.prog 48 #[.func (.yield l) #[] #[], .pointer (some ⟨Bn, 0, none⟩)] W fun e W' => (∃ v, e = .returned v) ∧ ((∃ ys, ys.Perm (L.map Prod.fst) ∧ J ys W') ∨ (∃ pre, True ∧ Jx pre W')) := by
  have HY := Aside0.mk hY
  have HL := Aside0.mk hL
  have HJ := Aside0.mk (And.intro hJ h0)
  clear hY h0 hL hJ
  go_enter Try.func48, Try.ntmps48
  go_wp2_with (first | (at_range; refine wpList_range_own _ rfl _ 65 rfl 22 79 keyed Try.underlying65 Rp b n D rfl hown ?_; intro w0 hrg0 hg0 hs0; have HRG0 := Aside0.mk (And.intro hrg0 (And.intro hg0 hs0)); clear hrg0 hg0 hs0))
  go_frame
  go_loopw [3] (fun _ wr => ∃ (left : Lit → Bool) (c : Nat) (ss : List Int), Aside0 (wr.ranges Try.prog 22 Rp b W.heap.size n D left c ∧ Coll L left ss ∧ J ss wr)) (fun _ wr => wr.rangeLeft b W.heap.size)
  case atStart => exact ⟨_, _, [], ⟨HRG0.out.1, coll_start HL.out, HJ.out.1 [] W w0 none HJ.out.2 HRG0.out.2.1 (fun r e => by cases e)⟩⟩
  case round =>
    clear HRG0
    obtain ⟨left, c, ss, HR⟩ := hrel
    have hrg := HR.out.1
    go_wp2_with (first | (at_next; refine wpList_next_ranges _ rfl _ rfl 22 keyed Rp (Value.int .u64) Past.v (fun key kl hk => by obtain ⟨x, hx, _⟩ := Go.Maps.keyOf_int_inv Try.underlying22 hk; exact ⟨x, hx⟩) (fun v y hv => by obtain ⟨p, hp, _⟩ := Rp_inv hv; exact ⟨p, hp⟩) b W.heap.size n _ _ _ rfl hrg ?_ ?_))
    · intro hc0 hl0
      have HEND := Aside0.mk (coll_end HR.out.2.1 hl0)
      clear hl0 hc0
      go_wp2
      go_end0
      exact ⟨⟨_, rfl⟩, .inl ⟨ss, HEND.out, HR.out.2.2⟩⟩
    · intro x c1 kl yd yp w2 cnt2 hkey hlk hv hat hrg2 hlt hg2 hs2 hen
      obtain ⟨x', ex, rfl, _⟩ := Go.Maps.keyOf_int_inv Try.underlying22 hkey
      have exx : x = x' := by injection ex
      subst exx
      have hmem : (x, c1) ∈ L := HL.out.memAt (fun zd => by have := hat zd; rw [Rp_v] at hv; cases hv; exact this)
      have hnd : (L.map Prod.fst).Nodup := by obtain ⟨_, _, _, hn⟩ := HL.out; exact hn
      have HST := Aside0.mk (coll_step HR.out.2.1 hnd hmem hlk)
      have HJ2 : Aside0 (J ss w2) := ⟨HJ.out.1 ss wr w2 (some W.heap.size) HR.out.2.2 hg2 (fun r e => by cases e; exact ⟨Nat.le_refl _, hrg.iter_walk⟩)⟩
      have HRG2 := Aside0.mk hrg2
      have HLT := Aside0.mk hlt
      clear hs2 hg2 hkey hlk hv hat hmem hnd hrg2 hlt ex
      go_upto_region 3 with fail
      refine (wpIn_wide (n := k0 + 1)).1 ?_
      obtain ⟨fn, tmps, assign, body, hy, hR⟩ := HY.out ss x w2 HJ2.out HST.out.2
      gi_wp2
      refine hR.mono ?_
      clear hR hy
      rintro e3 W4 (⟨rfl, hJ4, hk4⟩ | ⟨rfl, hJx⟩)
      · have hrg4 := HRG2.out.of_walks hk4
        have HJ4 := Aside0.mk hJ4
        clear hJ4 hk4
        gi_wp2
        go_wp2
        go_roundw
        case rel => exact ⟨_, cnt2, ss ++ [x], ⟨hrg4, HST.out.1, HJ4.out⟩⟩
        case measure => rw [hrg4.left_eq, hrg.left_eq]; exact HLT.out
      · have HJX := Aside0.mk hJx
        clear hJx
        gi_wp2
        go_wp2
        (try simp only [Exit.inBlock, Exit.then])
        refine bodyPost_ret (results_none rfl _ _ _) rfl ?_
        exact ⟨⟨_, rfl⟩, .inr ⟨_, trivial, HJX.out⟩⟩
theorem keys_seq (k0 Bn b n : Nat) (D : DataW Past) (L : List (Int × Past)) (hL : Lst D L) (W : World) (hBn : W.cell? ⟨Bn, 0, none⟩ = some (.map (some b))) (hown : W.ownsMap Try.prog 22 Rp b n D) :
    SeqStopsK Fence.wide (k0 + 1) Try.prog 48 #[.pointer (some ⟨Bn, 0, none⟩)] (fun x : Int => #[Value.int .u64 x]) KeepsWalks (fun l => l.Perm (L.map Prod.fst)) (fun _ => True) L.length W := by
  intro l J Jx W' hb hJ hJx hY h0
  refine callsIn_wide.2 ?_
  exact keys48_in k0 l Bn b n D L hL W' (pw_cell_below hb hBn) (ownsMap_of hown (hb.block _ hown.lt)) J Jx hJ h0 hY
set_option maxRecDepth 100000 in
theorem keys_calls (mb : Nat) (w : World) : Calls Try.prog 38 #[.map (some mb)] w fun e w' => e = .returned (.func (.func 48) #[] #[.pointer (some ⟨w.heap.size, 0, none⟩)]) ∧ w' = w.alloc (.cells #[.map (some mb)] 65) := by
  go_enter Try.func38, Try.ntmps38
  go_wp2
  go_ret
  exact ⟨rfl, rfl⟩
end Go.Proofs.Ytglekbbdbnpohaa.QLn
