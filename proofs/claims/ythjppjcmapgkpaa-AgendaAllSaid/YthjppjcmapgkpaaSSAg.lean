/- Agenda: AgendaAll. Written by a program of this repo (tools/gen_ag18.py). -/
import Derived.Test.YthjppjcmapgkpaaRRAg
namespace Go.Proofs.Ythjppjcmapgkpaa.QAg
open Go.RowKit Go.Maps Go.Proofs.YthjppjcmapgkpaaW.PrintWords Go.Proofs.YthjppjcmapgkpaaW.PrintLast Go.Proofs.YthjppjcmapgkpaaW.PrintMore
set_option linter.unusedVariables false
set_option linter.unusedSimpArgs false
/-! ### All are drained -/
theorem rem_perm : ∀ {M : List En}, M.Pairwise (fun x y => x.id < y.id) → ∀ {x : En}, x ∈ M → (x :: rem M x.id).Perm M
  | [], _, x, hx => by simp at hx
  | y :: M, hp, x, hx => by
    rw [List.pairwise_cons] at hp
    by_cases e : y.id = x.id
    · have hno : ∀ z ∈ M, z.id ≠ x.id := fun z hz => by have := hp.1 z hz; omega
      have hxy : x = y := by
        rcases List.mem_cons.1 hx with h1 | h1
        · exact h1
        · exact absurd rfl (hno x h1)
      subst hxy
      have e1 : rem (x :: M) x.id = M := by
        unfold rem
        rw [List.filter_cons_of_neg (by simp)]
        exact List.filter_eq_self.2 (fun z hz => by simpa using hno z hz)
      rw [e1]
    · have hxm : x ∈ M := by
        rcases List.mem_cons.1 hx with h1 | h1
        · exact absurd (by rw [h1]) e
        · exact h1
      have ih := rem_perm hp.2 hxm
      have e1 : rem (y :: M) x.id = y :: rem M x.id := by
        unfold rem
        rw [List.filter_cons_of_pos (by simp [e])]
      rw [e1]
      exact (List.Perm.swap y x _).trans (ih.cons y)
theorem seqN_all : ∀ (k : Nat) (M : List En), M.Pairwise (fun x y => x.id < y.id) → M.length ≤ k → (seqN k M).Perm M ∧ leftN k M = []
  | 0, M, _, h => by
    have : M = [] := List.eq_nil_of_length_eq_zero (by omega)
    subst this
    exact ⟨List.Perm.refl _, rfl⟩
  | k + 1, M, hp, h => by
    cases hb : best M with
    | none =>
      have := best_none hp hb
      subst this
      exact ⟨List.Perm.refl _, rfl⟩
    | some x =>
      have hx := best_mem' hp hb
      have hl := rem_len hp hx
      obtain ⟨h1, h2⟩ := seqN_all k (rem M x.id) (hp.sublist List.filter_sublist) (by omega)
      simp only [seqN, leftN, hb]
      exact ⟨(h1.cons x).trans (rem_perm hp hx), h2⟩
def km (x : En) : Int × Int := (x.key, x.mark)
/-- One that is among them is found, and taken out. -/
theorem take_out {L G : List En} {x : En} (h : (L.map km).Perm ((x :: G).map km)) : (∃ k, k < L.length ∧ ∃ y, L[k]? = some y ∧ km y = km x) ∧ ∀ (k : Nat) (y : En), L[k]? = some y → km y = km x → ((L.take k ++ L.drop (k + 1)).map km).Perm (G.map km) := by
  constructor
  · have : km x ∈ L.map km := h.mem_iff.2 (by rw [List.map_cons]; exact List.mem_cons_self)
    obtain ⟨y, hy, he⟩ := List.mem_map.1 this
    obtain ⟨k, hk⟩ := List.getElem?_of_mem hy
    exact ⟨k, (List.getElem?_eq_some_iff.1 hk).1, y, hk, he⟩
  · intro k y hk he
    obtain ⟨hlt, hky⟩ := List.getElem?_eq_some_iff.1 hk
    have e1 : L = L.take k ++ y :: L.drop (k + 1) := by rw [← hky, List.getElem_cons_drop, List.take_append_drop]
    have h2 : (km y :: ((L.take k ++ L.drop (k + 1)).map km)).Perm (km x :: G.map km) := by
      refine List.Perm.trans ?_ h
      conv => rhs; rw [e1]
      rw [List.map_append, List.map_append, List.map_cons]
      exact List.perm_middle.symm
    rw [he] at h2
    exact h2.cons_inv
theorem rowD_at {w : World} {B n c : Nat} {A : Option Addr} {L : List En} (h : RowQ w B 40 3 (.slice A n c) n (fM L)) {k : Nat} {x : En} (hx : L[k]? = some x) (hn : n = L.length) : ∃ g o, A = some ⟨g, o, none⟩ ∧ w.cell? ⟨g, o + k * 3, none⟩ = some (.int .i8 x.key) ∧ w.cell? ⟨g, o + k * 3 + 1, none⟩ = some (.int .i64 x.mark) := by
  have hlt := (List.getElem?_eq_some_iff.1 hx).1
  obtain ⟨g, o, cap, cur, hv, q1, q2, q3, q4, q5⟩ := h.lies (by omega)
  injection hv with e1 e2 e3
  subst e1
  have hg := fM_get L k x hx
  have key : ∀ j u, j < 3 → (aMs x)[j]? = some u → w.cell? ⟨g, o + k * 3 + j, none⟩ = some u := fun j u hj hu => by
    simp only [World.cell?, q2]
    rw [Nat.add_assoc]
    exact q5 _ _ ((hg j hj).trans hu)
  exact ⟨g, o, rfl, key 0 _ (by omega) rfl, key 1 _ (by omega) rfl⟩
theorem own_below {w w' : World} {base n : Nat} {v : Value} {xs : List Value} (h : w.ownsRow base 27 2 v n xs) (k : Below w.heap.size w w') : w'.ownsRow base 27 2 v n xs := own_move h (fun i hi => k.block i (own_lt h hi))
theorem ne_step {L : List En} {x y : En} {k : Nat} (h : ∀ (j : Nat) (y : En), j < k → L[j]? = some y → km y ≠ km x) (hy : L[k]? = some y) (hn : km y ≠ km x) : ∀ (j : Nat) (z : En), j < k + 1 → L[j]? = some z → km z ≠ km x := by
  intro j z hj hz
  by_cases hjk : j < k
  · exact h j z hjk hz
  · have : j = k := by omega
    subst this
    rw [hy] at hz
    cases hz
    exact hn
theorem cut_caps {k n : Nat} (h1 : k < n) (h2 : n ≤ 1000) : k ≤ maxLen ∧ k * 24 ≤ 140737488355328 ∧ k + (n - (k + 1)) ≤ maxLen ∧ (k + (n - (k + 1))) * 24 ≤ 140737488355328 ∧ k + (n - (k + 1)) ≤ 1000 := by
  unfold maxLen
  omega
theorem cut_len {L : List En} {k : Nat} (h : k < L.length) : k + (L.length - (k + 1)) = (L.take k ++ L.drop (k + 1)).length := by rw [List.length_append, List.length_take, List.length_drop, Nat.min_eq_left (Nat.le_of_lt h)]
theorem cut_facts {k n c : Nat} (h1 : k < n) (h2 : n ≤ c) (h3 : n ≤ 100000) : ((k : Int) == (n : Int)) = false ∧ (k == n) = false ∧ k ≤ c ∧ (k : Int) ≤ (c : Int) ∧ k + 1 ≤ c ∧ (k : Int) + 1 ≤ (c : Int) ∧ n ≤ c ∧ (n : Int) ≤ (c : Int) ∧ k + 1 ≤ n ∧ k ≤ n ∧ (k : Int) ≤ (n : Int) ∧ IntKind.i64.wrap ((k : Int) + 1) = (k : Int) + 1 ∧ ((k : Int) + 1).toNat = k + 1 ∧ (0 : Int) ≤ (k : Int) + 1 ∧ (k : Int) + 1 ≤ (n : Int) := by
  refine ⟨by simp; omega, by simp; omega, by omega, by omega, by omega, by omega, h2, by omega, by omega, by omega, by omega, ?_, by omega, by omega, by omega⟩
  exact (IntKind.wrap_i64 _).trans (by omega)
/-- What is left, and what was drained. -/
structure LfI (W : World) (n1 : Nat) (vl : Value) (L : List En) (n2 : Nat) (vg : Value) (G : List En) (w : World) : Prop where
  be : Below W.heap.size W w
  row : RowQ w n1 40 3 vl L.length (fM L)
  got : w.ownsRow n2 27 2 vg G.length (fT G)
  len : L.length ≤ 1000 ∧ G.length ≤ 1000
theorem LfI.below {W w w' : World} {n1 n2 : Nat} {vl vg : Value} {L G : List En} (h : LfI W n1 vl L n2 vg G w) (k : Below w.heap.size w w') : LfI W n1 vl L n2 vg G w' := ⟨h.be.trans (k.mono h.be.size), h.row.below k, own_below h.got k, h.len⟩
set_option maxRecDepth 100000 in
set_option maxHeartbeats 8000000 in
theorem AgendaAll_hand (A : Option Addr) (c : Nat) (l : List S35) (W : World) (hr : Kd.C k35 W A l.length l) (hc : l.length ≤ c) (h2 : l.length * 40 ≤ 140737488351232 ∧ ∀ x ∈ l, OpOk x) : Calls Try.prog 3 #[.slice A l.length c] W fun e w' => e = .returned (.bool true) ∧ Below W.heap.size W w' := by
  have HR := Aside0.mk hr
  have H2 := Aside0.mk h2.2
  clear hr h2
  obtain ⟨i0, hi0, hz0, hz1, hz2⟩ := info_parts info40
  have HI0 := Aside0.mk (And.intro hi0 (And.intro hz0 (And.intro hz1 hz2)))
  clear hi0 hz0 hz1 hz2
  go_enter Try.func3, Try.ntmps3
  go_upto_region 4 with (go_at_call 8; refine (New_ax _).mono ?_; rintro r w1 ⟨rfl, hl, hx⟩; have H1 := Aside0.mk (run_start hl hx); clear hl hx)
  try change Code.wp _ _ _ _ (w1.alloc (.cells #[.slice none 0 0, .int .i64 0] 32))
  generalize w1.alloc (.cells #[.slice none 0 0, .int .i64 0] 32) = w2 at H1 ⊢
  generalize w1.heap.size + 1 = C at H1 ⊢
  generalize w1.heap.size = rb at H1 ⊢
  have HRB : Aside0 (∃ mb, mb = W.heap.size) := ⟨⟨_, rfl⟩⟩
  obtain ⟨mb, hmb⟩ := HRB.out
  have HRC : Aside0 (∃ b, b = W.heap.size + 1) := ⟨⟨_, rfl⟩⟩
  obtain ⟨b, hb⟩ := HRC.out
  have HRD : Aside0 (∃ B, B = W.heap.size + 2) := ⟨⟨_, rfl⟩⟩
  obtain ⟨B, hB⟩ := HRD.out
  replace H1 : Aside0 (RunI W b mb B rb C 0 w2) := ⟨by rw [hmb, hb, hB]; exact H1.out⟩
  try rw [← hb]
  clear hmb hb hB HRB HRC HRD
  go_wp2
  go_loopw [5] (fun i wr => ∃ j : Nat, j ≤ 60 ∧ i = .int .i64 (j : Int) ∧ Aside0 (RunI W b mb B rb C j wr)) (fun i _ => 60 - (intOf i).toNat)
  case atStart => exact ⟨0, by omega, rfl, H1⟩
  case round =>
    clear H1
    obtain ⟨j, hj60, rfl, HI⟩ := hrel
    by_cases hgo : j < l.length ∧ j < 60
    · have d1 : decide ((j : Int) < (l.length : Int)) = true := decide_eq_true (by omega)
      have d1' : decide (j < l.length) = true := decide_eq_true hgo.1
      have d2 : decide ((j : Int) < 60) = true := decide_eq_true (by omega)
      have d2' : decide (j < 60) = true := decide_eq_true hgo.2
      have HJ : Aside0 (j + 1 ≤ 60) := ⟨hgo.2⟩
      have hx0 : (0 : Int) ≤ (j : Int) := by omega
      have hx1 : (j : Int) < (l.length : Int) := by omega
      obtain ⟨ad, rfl, p0, p1, p2, p3, p4⟩ := at_T35 HR.out (j : Int) hx0 hx1
      have HOK := Aside0.mk (H2.out _ (o_mem hgo.1))
      obtain ⟨xx, hxx⟩ : ∃ xx, rd_T35 l (j : Int) = xx := ⟨_, rfl⟩
      rw [hxx, Int.toNat_natCast] at p0 p1 p2 p3 p4
      rw [hxx] at HOK
      have hw : wrap64 ((j : Int) + 1) = (j : Int) + 1 := by unfold wrap64; omega
      have HH : Aside0 (60 - ((j : Int) + 1).toNat < 60 - ((j : Int)).toNat) := ⟨by omega⟩
      have ht : ((j : Int)).toNat = j := Int.toNat_natCast j
      obtain ⟨nx, M, hnx, hbo⟩ := HI.out
      have HB := Aside0.mk hbo
      have HN : Aside0 (nx ≤ 1000) := ⟨by omega⟩
      have HNX := Aside0.mk hnx
      clear hxx hgo hnx hbo
      replace p0 := pw_cell_below HB.out.be p0
      replace p1 := pw_cell_below HB.out.be p1
      replace p2 := pw_cell_below HB.out.be p2
      replace p3 := pw_cell_below HB.out.be p3
      replace p4 := pw_cell_below HB.out.be p4
      go_wp2_with (go_at_call 10; refine (do_calls HB.out HN.out xx.f0 xx.f1.f0 xx.f1.f1 xx.f2 xx.f3 HOK.out.2.2.1).mono ?_; rintro e w4 ⟨rfl, nx2, M2, hn2, hb2⟩; have HB2 := Aside0.mk (And.intro hb2 hn2); clear hb2 hn2)
      go_roundw
      case rel => exact ⟨j + 1, HJ.out, (by first | rfl | (rw [hw]; rfl)), ⟨nx2, M2, by have h8 := HB2.out.2; have h9 := HNX.out; omega, HB2.out.1⟩⟩
      case measure => first | exact HH.out | (simp only [hw]; exact HH.out)
    · by_cases hl : j < l.length
      · have d1 : decide ((j : Int) < (l.length : Int)) = true := decide_eq_true (by omega)
        have d1' : decide (j < l.length) = true := decide_eq_true hl
        have d2 : decide ((j : Int) < 60) = false := decide_eq_false (by omega)
        have d2' : decide (j < 60) = false := decide_eq_false (by omega)
        clear hgo hl
        obtain ⟨nx, M, hnx, hbo⟩ := HI.out
        have hinc := hbo.ax.inc
        have hsm := hbo.small
        obtain ⟨v, hv⟩ := hbo.rl
        obtain ⟨Ar, cr, rfl, _⟩ := hv.form
        have hml : M.length ≤ 120 := by omega
        obtain ⟨hperm, hnil⟩ := seqN_all 120 M hinc hml
        have HM := Aside0.mk (And.intro hperm (And.intro hnil (And.intro hml hperm.length_eq)))
        have HB := Aside0.mk (And.intro hbo hv)
        clear hnx hbo hinc hsm hv hml hperm hnil HI
        go_upto_region 9 with fail
        have HB1 : Aside0 (Bo W b mb B rb C nx M (wr.alloc (.cells #[] 40)) ∧ RL (wr.alloc (.cells #[] 40)) rb C ⟨nx - 1, M⟩ (.slice Ar M.length cr)) := ⟨HB.out.1.below ((Below.refl _ _).alloc (Nat.le_refl _) _), HB.out.2.below ((Below.refl _ _).alloc (Nat.le_refl _) _)⟩
        have c0 := HB1.out.2.cells.1
        obtain ⟨v2, w3, hrun, hrow, hgr⟩ := run_copy (P := Try.prog) (wr.alloc (.cells #[] 40)) 30 30 40 i0 _ 3 24 Try.underlying30 HI0.out.1 HI0.out.2.1 HI0.out.2.2.1 HI0.out.2.2.2 rfl (by decide) ⟨wr.heap.size, 0, none⟩ Ar M.length cr (fM M) (fM_len _) HB1.out.2.row.src (by have := HM.out.2.2.1; unfold maxLen; omega) (by have := HM.out.2.2.1; omega)
        obtain ⟨A2, cap, rfl, _⟩ := hrow.form
        have HRUN := Aside0.mk hrun
        have HL3 := Aside0.mk (And.intro (HB1.out.1.below (grown_below hgr)) (And.intro hrow (by have := HB1.out.1.be.size; have := hgr.size; omega : W.heap.size ≤ w3.heap.size)))
        clear hrun hrow hgr HB
        go_upto_region 10 with (first | ((with_reducible refine gate_builtin (b := .append) rfl ?_); at_builtin; refine app_list _ rfl (.tmp 33) (.tmp 37) 30 rfl rfl rfl HRUN.out ?_))
        clear c0 HB1 HRUN
        generalize (wr.alloc (.cells #[] 40)).heap.size = n1 at HL3
        have HLIM : Aside0 (limN 0 = 120) := ⟨rfl⟩
        go_upto_region 11 with (go_at_call 11; refine (drain_calls HL3.out.1.ax 0).mono ?_; rewrite [HLIM.out]; rintro r w4 ⟨v7, rfl, hr7, hx7, hg7⟩; rw [HM.out.2.2.2] at hr7; obtain ⟨A7, c7, rfl⟩ := own_form hr7; rw [HM.out.2.1] at hx7; have H7 := Aside0.mk (And.intro hr7 (And.intro hx7 hg7)); clear hr7 hx7 hg7)
        have HLF : Aside0 (LfI W n1 (.slice A2 M.length cap) M w3.heap.size (.slice A7 M.length c7) (seqN 120 M) w4) := ⟨by
          refine ⟨HL3.out.1.be.trans (H7.out.2.2.below HL3.out.1.ge.1 HL3.out.1.ge.2.1 HL3.out.1.ge.2.2.1 HL3.out.1.be.size), HL3.out.2.1.of (fun g cur _ hg => ?_), by rw [HM.out.2.2.2]; exact H7.out.1, by have := HM.out.2.2.1; omega, by rw [HM.out.2.2.2]; have := HM.out.2.2.1; omega⟩
          obtain ⟨⟨Cb, hb⟩, es, cl, hm⟩ := HL3.out.1.ax.blks
          rw [H7.out.2.2.box hg (fun h0 => by rw [h0, hb] at hg; injection hg with hg; injection hg with _ hg; exact absurd hg (by decide)) (fun h0 => by rw [h0, hm] at hg; cases hg) ⟨by decide, by decide⟩, hg]⟩
        have k1 : ((M.length : Int) != (M.length : Int)) = false := by simp
        go_upto_region 13 with (go_at_call 12; refine (Len_ax H7.out.2.1).mono ?_; rintro e w5 ⟨rfl, hw5⟩; replace hw5 := hw5.symm; subst hw5)
        have HGP : Aside0 (((M).map km).Perm (((seqN 120 M).drop 0).map km)) := ⟨(HM.out.1.map km).symm⟩
        have HGL : Aside0 ((seqN 120 M).length = M.length) := ⟨HM.out.2.2.2⟩
        have HV0 : Aside0 (∃ n1 L, LfI W n1 (.slice A2 M.length cap) L w3.heap.size (.slice A7 M.length c7) (seqN 120 M) w4 ∧ (L.map km).Perm (((seqN 120 M).drop 0).map km)) := ⟨⟨n1, M, HLF.out, HGP.out⟩⟩
        generalize w3.heap.size = n2 at HV0
        generalize hG : seqN 120 M = G at HV0 HGL
        generalize M.length = m at HV0 HGL ⊢
        clear hG HLF HGP HL3 H7 HM k1
        clear HLIM
        go_wp2
        go_loopw [6, 8] (fun vl i wr => ∃ (i0 : Nat) (n1 : Nat) (L : List En), i0 ≤ m ∧ i = .int .i64 (i0 : Int) ∧ Aside0 (LfI W n1 vl L n2 (.slice A7 m c7) G wr ∧ (L.map km).Perm ((G.drop i0).map km))) (fun _ i _ => m - (intOf i).toNat)
        case atStart =>
          obtain ⟨n1', L', h1, h2⟩ := HV0.out
          exact ⟨0, n1', L', Nat.zero_le _, rfl, ⟨h1, h2⟩⟩
        case round =>
          clear HV0
          obtain ⟨i, n1, L, hil, rfl, HQ⟩ := hrel
          obtain ⟨AL, cL, rfl, hcl⟩ := HQ.out.1.row.form
          by_cases hlt : i < m
          · have b1 : (0 : Int) ≤ (i : Int) := Int.natCast_nonneg i
            have b2 : (i : Int) < (m : Int) := Int.ofNat_lt.2 hlt
            have b3 : decide ((i : Int) < (m : Int)) = true := decide_eq_true b2
            have b4 : decide (i < m) = true := decide_eq_true hlt
            have ht : ((i : Int)).toNat = i := Int.toNat_natCast i
            have HML : Aside0 (m ≤ 1000) := ⟨by have := HQ.out.1.len.2; have := HGL.out; omega⟩
            have hwi : wrap64 ((i : Int) + 1) = (i : Int) + 1 := w64_nat (by have := HML.out; omega)
            have HHi : Aside0 (m - ((i : Int) + 1).toNat < m - ((i : Int)).toNat) := ⟨meas_nat hlt⟩
            have HIL : Aside0 (i + 1 ≤ m) := ⟨hlt⟩
            obtain ⟨x, hgi⟩ : ∃ x, G[i]? = some x := ⟨_, List.getElem?_eq_getElem (Nat.lt_of_lt_of_eq hlt HGL.out.symm)⟩
            have hdr : G.drop i = x :: G.drop (i + 1) := by
              obtain ⟨hlt2, hx2⟩ := List.getElem?_eq_some_iff.1 hgi
              rw [← hx2]
              exact List.drop_eq_getElem_cons hlt2
            have HTO := Aside0.mk (take_out (L := L) (G := G.drop (i + 1)) (x := x) (by rw [← hdr]; exact HQ.out.2))
            have hgot : wr.ownsRow n2 27 2 (.slice A7 m c7) m (fT G) := by have := HQ.out.1.got; rw [HGL.out] at this; exact this
            obtain ⟨gG, rfl, _, _⟩ := own_at hgot hgi HGL.out.symm
            obtain ⟨cG, hcG⟩ : ∃ cG, cG = c7 := ⟨_, rfl⟩
            subst hcG
            have HGI := Aside0.mk hgi
            have HCC := Aside0.mk hcl
            clear hgi hdr hgot hlt hcl
            obtain ⟨wo, hwo⟩ : ∃ wo, wo = wr := ⟨_, rfl⟩
            rw [← hwo] at HQ
            rw [← hwo]
            clear hwo
            go_wp2
            have HS0 : Aside0 (LfI W n1 (.slice AL L.length cL) L n2 (.slice (some ⟨gG, 0, none⟩) m cG) G wo ∧ ∀ (j : Nat) (y : En), j < 0 → L[j]? = some y → km y ≠ km x) := ⟨HQ.out.1, fun j y hj => by omega⟩
            go_loopw [9] (fun u9 wr => ∃ k : Nat, k ≤ L.length ∧ u9 = .int .i64 (k : Int) ∧ Aside0 (LfI W n1 (.slice AL L.length cL) L n2 (.slice (some ⟨gG, 0, none⟩) m cG) G wr ∧ ∀ (j : Nat) (y : En), j < k → L[j]? = some y → km y ≠ km x)) (fun u9 _ => L.length - (intOf u9).toNat)
            case atStart => exact ⟨0, Nat.zero_le _, rfl, HS0⟩
            case round =>
              clear HS0
              obtain ⟨k, hkl, rfl, HS⟩ := hrel
              have HKlt : Aside0 (k < L.length) := ⟨by
                obtain ⟨k2, h1, y2, h2, h3⟩ := HTO.out.1
                refine Classical.byContradiction fun hc => ?_
                exact HS.out.2 k2 y2 (by omega) h2 h3⟩
              have e1 : (0 : Int) ≤ (k : Int) := Int.natCast_nonneg k
              have e2 : (k : Int) < (L.length : Int) := Int.ofNat_lt.2 HKlt.out
              have e3 : decide ((k : Int) < (L.length : Int)) = true := decide_eq_true e2
              have e4 : decide (k < L.length) = true := decide_eq_true HKlt.out
              have et : ((k : Int)).toNat = k := Int.toNat_natCast k
              obtain ⟨y, hy⟩ : ∃ y, L[k]? = some y := ⟨_, List.getElem?_eq_getElem HKlt.out⟩
              have HY := Aside0.mk hy
              obtain ⟨gT, oT, rfl, y0, y1⟩ := rowD_at HS.out.1.row hy rfl
              have hgot : wr.ownsRow n2 27 2 (.slice (some ⟨gG, 0, none⟩) m cG) m (fT G) := by have := HS.out.1.got; rw [HGL.out] at this; exact this
              obtain ⟨g8, hg8, x0, x1⟩ := own_at hgot HGI.out HGL.out.symm
              injection hg8 with hg8
              injection hg8 with hg8 _
              subst hg8
              clear hy hgot hkl
              have hwk : wrap64 ((k : Int) + 1) = (k : Int) + 1 := w64_nat (by have := HS.out.1.len.1; have := HKlt.out; omega)
              have HHk : Aside0 (L.length - ((k : Int) + 1).toNat < L.length - ((k : Int)).toNat) := ⟨meas_nat HKlt.out⟩
              go_upto_region 17 with fail
              by_cases h1 : y.key = x.key
              · have q1 : (y.key == x.key) = true := by simp [h1]
                by_cases h2 : y.mark = x.mark
                · have q2 : (y.mark == x.mark) = true := by simp [h2]
                  have HEQ : Aside0 (km y = km x) := ⟨by unfold km; rw [h1, h2]⟩
                  clear h1 h2
                  go_quiet (fail)
                  have HS2 := Aside0.mk (HS.out.1.below (pw_below_drewN (Below.refl _ _) nq))
                  clear y0 y1 x0 x1
                  generalize wr.drewN nq = ws at HS2 ⊢
                  have HKL : Aside0 (k < L.length) := HKlt
                  have HCL : Aside0 (L.length ≤ cL) := HCC
                  clear hil hj60 hc
                  obtain ⟨k5, k6, n1', n2', n3, n4, n5, n6, n7, n8, n9, hwk2, ht1, p4, p5⟩ := cut_facts HKL.out HCL.out (Nat.le_trans HS.out.1.len.1 (by decide))
                  obtain ⟨c, hcc⟩ : ∃ c, c = cL := ⟨_, rfl⟩
                  subst hcc
                  have HCP := Aside0.mk (cut_caps HKL.out HS.out.1.len.1)
                  replace HQ : Aside0 (LfI W n1 (.slice (some ⟨gT, oT, none⟩) L.length c) L n2 (.slice (some ⟨gG, 0, none⟩) m cG) G ws ∧ True) := ⟨HS2.out, trivial⟩
                  clear HS HS2
                  go_upto_region 21 with fail
                  refine startN (S := fun w' => RowQ w' n1 40 3 (.slice (some ⟨gT, oT, none⟩) L.length c) L.length (fM L)) (N := []) (by kernel_rfl) ?_
                  have hHeld : (fun w' => RowQ w' n1 40 3 (.slice (some ⟨gT, oT, none⟩) L.length c) L.length (fM L)) ws.drew := HQ.out.1.row.below (Below.refl _ _).drew
                  refine takeF (i := 1) (v := _) 80 rfl rfl (by kernel_rfl) (by kernel_rfl) (by kernel_rfl) (fun _ _ _ h => h) (Or.inl ⟨by rfl, fun w' _ => by first | (go_simp; done) | (go_simp; with_reducible rfl) | (go_simp; rfl)⟩) ?_
                  try simp only [Act.put, List.setIfInBounds_toArray, List.set_cons_zero, List.set_cons_succ]
                  refine takeF (i := 2) (v := _) 81 rfl rfl (by kernel_rfl) (by kernel_rfl) (by kernel_rfl) (fun _ _ _ h => h) (Or.inl ⟨by rfl, fun w' _ => by first | (go_simp; done) | (go_simp; with_reducible rfl) | (go_simp; rfl)⟩) ?_
                  try simp only [Act.put, List.setIfInBounds_toArray, List.set_cons_zero, List.set_cons_succ]
                  refine takeF (i := 3) (v := _) 82 rfl rfl (by kernel_rfl) (by kernel_rfl) (by kernel_rfl) (fun _ _ _ h => h) (Or.inl ⟨by rfl, fun w' _ => by first | (go_simp; done) | (go_simp; with_reducible rfl) | (go_simp; rfl)⟩) ?_
                  try simp only [Act.put, List.setIfInBounds_toArray, List.set_cons_zero, List.set_cons_succ]
                  refine takeF (i := 5) (v := _) 84 rfl rfl (by kernel_rfl) (by kernel_rfl) (by kernel_rfl) (fun _ _ _ h => h) (Or.inl ⟨by rfl, fun w' _ => by first | (go_simp; done) | (go_simp; with_reducible rfl) | (go_simp; rfl)⟩) ?_
                  try simp only [Act.put, List.setIfInBounds_toArray, List.set_cons_zero, List.set_cons_succ]
                  refine takeF (i := 6) (v := _) 85 rfl rfl (by kernel_rfl) (by kernel_rfl) (by kernel_rfl) (fun _ _ _ h => h) (Or.inl ⟨by rfl, fun w' _ => by first | (go_simp; done) | (go_simp; with_reducible rfl) | (go_simp; rfl)⟩) ?_
                  try simp only [Act.put, List.setIfInBounds_toArray, List.set_cons_zero, List.set_cons_succ]
                  refine takeF (i := 7) (v := _) 86 rfl rfl (by kernel_rfl) (by kernel_rfl) (by kernel_rfl) (fun _ _ _ h => h) (Or.inl ⟨by rfl, fun w' _ => by first | (go_simp; done) | (go_simp; with_reducible rfl) | (go_simp; rfl)⟩) ?_
                  try simp only [Act.put, List.setIfInBounds_toArray, List.set_cons_zero, List.set_cons_succ]
                  refine takeF (i := 8) (v := _) 87 rfl rfl (by kernel_rfl) (by kernel_rfl) (by kernel_rfl) (fun _ _ _ h => h) (Or.inl ⟨by rfl, fun w' _ => by first | (go_simp; done) | (go_simp; with_reducible rfl) | (go_simp; rfl)⟩) ?_
                  try simp only [Act.put, List.setIfInBounds_toArray, List.set_cons_zero, List.set_cons_succ]
                  have HB4 := Aside0.mk (HQ.out.1.below (Below.refl _ _).drew)
                  clear hHeld
                  generalize ws.drew = w4 at HB4 ⊢
                  refine readyN (rs := [0]) (by kernel_rfl) (by simp) ?_
                  refine eachN.cons rfl (fun K hK => ?_) eachN.nil
                  go_simp
                  have HB5 := Aside0.mk (HB4.out.below ((Below.refl _ _).alloc (Nat.le_refl _) (.cells #[] 40)))
                  try change K _ (w4.alloc (.cells #[] 40))
                  generalize w4.alloc (.cells #[] 40) = w5 at HB5 ⊢
                  generalize w4.heap.size = g9
                  refine hK.out _ _ HB5.out.row (fun hHeld => ?_)
                  clear hK K
                  try simp only [Act.put, List.setIfInBounds_toArray, List.set_cons_zero, List.set_cons_succ]
                  clear hHeld HB4
                  obtain ⟨v2, w6, hrun, hrow, hgr⟩ := run_copy (P := Try.prog) w5 30 30 40 i0 _ 3 24 Try.underlying30 HI0.out.1 HI0.out.2.1 HI0.out.2.2.1 HI0.out.2.2.2 rfl (by decide) ⟨g9, 0, none⟩ (some ⟨gT, oT, none⟩) k c (fM (L.take k)) (by rw [fM_len, List.length_take, Nat.min_eq_left (Nat.le_of_lt HKL.out)]) (src_take HB5.out.row.src k) HCP.out.1 HCP.out.2.1
                  obtain ⟨A2, c2, rfl, hc2⟩ := hrow.form
                  have HRUN := Aside0.mk hrun
                  have HROW := Aside0.mk hrow
                  have HGR := Aside0.mk (grown_below hgr)
                  have HB6 := Aside0.mk (HB5.out.below HGR.out)
                  clear hrun hrow hgr hc2
                  refine readyN (rs := [4]) (by kernel_rfl) (by simp) ?_
                  refine eachN.cons rfl (fun K hK => ?_) eachN.nil
                  rw [if_pos (by rfl)]
                  refine app_at _ (.tmp 79) (.tmp 82) 30 rfl (v1 := .slice (some ⟨g9, 0, none⟩) 0 0) (v2 := .slice (some ⟨gT, oT, none⟩) k c) rfl rfl HRUN.out ?_
                  refine hK.out _ _ HB6.out.row (fun hHeld => ?_)
                  clear hK K
                  try simp only [Act.put, List.setIfInBounds_toArray, List.set_cons_zero, List.set_cons_succ]
                  clear hHeld
                  obtain ⟨v3, w7, hrun, hrow, hon⟩ := run_append_row (P := Try.prog) w6 30 30 40 i0 _ 3 24 Try.underlying30 HI0.out.1 HI0.out.2.1 HI0.out.2.2.1 HI0.out.2.2.2 rfl (by decide) w5.heap.size _ k (fM (L.take k)) HROW.out HGR.out.size (if c = k + 1 then ⟨gT, oT, none⟩ else ⟨gT, oT + (k + 1) * 3, none⟩) (L.length - (k + 1)) (c - (k + 1)) (fM (L.drop (k + 1))) (by rw [fM_len, List.length_drop]) (src_drop HB6.out.row.src ⟨HKL.out, HCL.out⟩) (fM_oneC _) HCP.out.2.2.1 HCP.out.2.2.2.1
                  rw [← ite_some'] at hrun
                  have hlen := cut_len (L := L) HKL.out
                  rw [hlen, ← fM_append] at hrow
                  have hl64 : (L.take k ++ L.drop (k + 1)).length ≤ 1000 := by rw [← hlen]; exact HCP.out.2.2.2.2
                  clear hlen
                  generalize hLL : L.take k ++ L.drop (k + 1) = LL at hrow hl64
                  have HLL := Aside0.mk hLL
                  have HPM : Aside0 ((LL.map km).Perm ((G.drop (i + 1)).map km)) := ⟨by rw [← HLL.out]; exact HTO.out.2 k y HY.out HEQ.out⟩
                  obtain ⟨A3, c3', rfl, hc3⟩ := hrow.form
                  have HRUN2 := Aside0.mk hrun
                  have HB7 : Aside0 (LfI W w5.heap.size (.slice A3 LL.length c3') LL n2 (.slice (some ⟨gG, 0, none⟩) m cG) G w7) := ⟨by have hb7 := HB5.out.below (HGR.out.trans (hon.below HGR.out.size)); exact ⟨hb7.be, hrow, hb7.got, hl64, hb7.len.2⟩⟩
                  have HRW7 : Aside0 (RowQ w7 n1 40 3 (.slice (some ⟨gT, oT, none⟩) L.length c) L.length (fM L)) := ⟨(HB5.out.below (HGR.out.trans (hon.below HGR.out.size))).row⟩
                  clear hrun hrow hon hc3 hl64 hLL
                  refine readyN (rs := [9]) (by kernel_rfl) (by simp) ?_
                  refine eachN.cons rfl (fun K hK => ?_) eachN.nil
                  rw [if_pos (by rfl)]
                  refine app_at _ (.tmp 83) (.tmp 87) 30 rfl (v1 := .slice A2 k c2) (v2 := .slice (if c = k + 1 then some ⟨gT, oT, none⟩ else some ⟨gT, oT + (k + 1) * 3, none⟩) (L.length - (k + 1)) (c - (k + 1))) rfl rfl HRUN2.out ?_
                  refine hK.out _ _ HRW7.out (fun hHeld => ?_)
                  clear hK K
                  try simp only [Act.put, List.setIfInBounds_toArray, List.set_cons_zero, List.set_cons_succ]
                  refine takeF (i := 10) (v := _) 6 rfl rfl (by kernel_rfl) (by kernel_rfl) (by kernel_rfl) (fun _ _ _ h => h) (Or.inl ⟨by rfl, fun w' _ => by first | (go_simp; done) | (go_simp; with_reducible rfl) | (go_simp; rfl)⟩) ?_
                  try simp only [Act.put, List.setIfInBounds_toArray, List.set_cons_zero, List.set_cons_succ]
                  refine doneN (by kernel_rfl) ?_ _
                  go_wp2
                  go_roundw
                  case rel => exact ⟨i + 1, _, LL, HIL.out, (by first | rfl | (rw [hwi]; rfl)), ⟨HB7.out, HPM.out⟩⟩
                  case measure => first | exact HHi.out | (simp only [hwi]; exact HHi.out)
                · have q2 : (y.mark == x.mark) = false := by simp [h2]
                  have HNE : Aside0 (km y ≠ km x) := ⟨fun hc => by unfold km at hc; injection hc with hc1 hc2; exact h2 hc2⟩
                  clear h1 h2
                  go_quiet (fail)
                  have HS2 : Aside0 (LfI W n1 (.slice (some ⟨gT, oT, none⟩) L.length cL) L n2 (.slice (some ⟨gG, 0, none⟩) m cG) G (wr.drewN nq) ∧ ∀ (j : Nat) (y : En), j < k + 1 → L[j]? = some y → km y ≠ km x) := ⟨HS.out.1.below (pw_below_drewN (Below.refl _ _) nq), ne_step HS.out.2 HY.out HNE.out⟩
                  go_wp2
                  go_roundw
                  case rel => exact ⟨k + 1, HKlt.out, (by first | rfl | (rw [hwk]; rfl)), HS2⟩
                  case measure => first | exact HHk.out | (simp only [hwk]; exact HHk.out)
              · have q1 : (y.key == x.key) = false := by simp [h1]
                have HNE : Aside0 (km y ≠ km x) := ⟨fun hc => by unfold km at hc; injection hc with hc1 hc2; exact h1 hc1⟩
                clear h1
                by_cases h2 : y.mark = x.mark
                · have q2 : (y.mark == x.mark) = true := by simp [h2]
                  clear h2
                  go_quiet (fail)
                  have HS2 : Aside0 (LfI W n1 (.slice (some ⟨gT, oT, none⟩) L.length cL) L n2 (.slice (some ⟨gG, 0, none⟩) m cG) G (wr.drewN nq) ∧ ∀ (j : Nat) (y : En), j < k + 1 → L[j]? = some y → km y ≠ km x) := ⟨HS.out.1.below (pw_below_drewN (Below.refl _ _) nq), ne_step HS.out.2 HY.out HNE.out⟩
                  go_wp2
                  go_roundw
                  case rel => exact ⟨k + 1, HKlt.out, (by first | rfl | (rw [hwk]; rfl)), HS2⟩
                  case measure => first | exact HHk.out | (simp only [hwk]; exact HHk.out)
                · have q2 : (y.mark == x.mark) = false := by simp [h2]
                  clear h2
                  go_quiet (fail)
                  have HS2 : Aside0 (LfI W n1 (.slice (some ⟨gT, oT, none⟩) L.length cL) L n2 (.slice (some ⟨gG, 0, none⟩) m cG) G (wr.drewN nq) ∧ ∀ (j : Nat) (y : En), j < k + 1 → L[j]? = some y → km y ≠ km x) := ⟨HS.out.1.below (pw_below_drewN (Below.refl _ _) nq), ne_step HS.out.2 HY.out HNE.out⟩
                  go_wp2
                  go_roundw
                  case rel => exact ⟨k + 1, HKlt.out, (by first | rfl | (rw [hwk]; rfl)), HS2⟩
                  case measure => first | exact HHk.out | (simp only [hwk]; exact HHk.out)
          · have b3 : decide ((i : Int) < (m : Int)) = false := decide_eq_false (by omega)
            have b4 : decide (i < m) = false := decide_eq_false hlt
            have HBE := Aside0.mk HQ.out.1.be
            clear hlt
            go_wp2_with (go_at_call 13; refine (alive_calls _).mono ?_; rintro e w5 ⟨rfl, hl5⟩; have HAL := Aside0.mk (HBE.out.trans (hl5.mono HBE.out.size)); clear hl5)
            go_ret
            exact ⟨rfl, HAL.out⟩
      · have d1 : decide ((j : Int) < (l.length : Int)) = false := decide_eq_false (by omega)
        have d1' : decide (j < l.length) = false := decide_eq_false hl
        clear hgo hl
        obtain ⟨nx, M, hnx, hbo⟩ := HI.out
        have hinc := hbo.ax.inc
        have hsm := hbo.small
        obtain ⟨v, hv⟩ := hbo.rl
        obtain ⟨Ar, cr, rfl, _⟩ := hv.form
        have hml : M.length ≤ 120 := by omega
        obtain ⟨hperm, hnil⟩ := seqN_all 120 M hinc hml
        have HM := Aside0.mk (And.intro hperm (And.intro hnil (And.intro hml hperm.length_eq)))
        have HB := Aside0.mk (And.intro hbo hv)
        clear hnx hbo hinc hsm hv hml hperm hnil HI
        go_upto_region 9 with fail
        have HB1 : Aside0 (Bo W b mb B rb C nx M (wr.alloc (.cells #[] 40)) ∧ RL (wr.alloc (.cells #[] 40)) rb C ⟨nx - 1, M⟩ (.slice Ar M.length cr)) := ⟨HB.out.1.below ((Below.refl _ _).alloc (Nat.le_refl _) _), HB.out.2.below ((Below.refl _ _).alloc (Nat.le_refl _) _)⟩
        have c0 := HB1.out.2.cells.1
        obtain ⟨v2, w3, hrun, hrow, hgr⟩ := run_copy (P := Try.prog) (wr.alloc (.cells #[] 40)) 30 30 40 i0 _ 3 24 Try.underlying30 HI0.out.1 HI0.out.2.1 HI0.out.2.2.1 HI0.out.2.2.2 rfl (by decide) ⟨wr.heap.size, 0, none⟩ Ar M.length cr (fM M) (fM_len _) HB1.out.2.row.src (by have := HM.out.2.2.1; unfold maxLen; omega) (by have := HM.out.2.2.1; omega)
        obtain ⟨A2, cap, rfl, _⟩ := hrow.form
        have HRUN := Aside0.mk hrun
        have HL3 := Aside0.mk (And.intro (HB1.out.1.below (grown_below hgr)) (And.intro hrow (by have := HB1.out.1.be.size; have := hgr.size; omega : W.heap.size ≤ w3.heap.size)))
        clear hrun hrow hgr HB
        go_upto_region 10 with (first | ((with_reducible refine gate_builtin (b := .append) rfl ?_); at_builtin; refine app_list _ rfl (.tmp 33) (.tmp 37) 30 rfl rfl rfl HRUN.out ?_))
        clear c0 HB1 HRUN
        generalize (wr.alloc (.cells #[] 40)).heap.size = n1 at HL3
        have HLIM : Aside0 (limN 0 = 120) := ⟨rfl⟩
        go_upto_region 11 with (go_at_call 11; refine (drain_calls HL3.out.1.ax 0).mono ?_; rewrite [HLIM.out]; rintro r w4 ⟨v7, rfl, hr7, hx7, hg7⟩; rw [HM.out.2.2.2] at hr7; obtain ⟨A7, c7, rfl⟩ := own_form hr7; rw [HM.out.2.1] at hx7; have H7 := Aside0.mk (And.intro hr7 (And.intro hx7 hg7)); clear hr7 hx7 hg7)
        have HLF : Aside0 (LfI W n1 (.slice A2 M.length cap) M w3.heap.size (.slice A7 M.length c7) (seqN 120 M) w4) := ⟨by
          refine ⟨HL3.out.1.be.trans (H7.out.2.2.below HL3.out.1.ge.1 HL3.out.1.ge.2.1 HL3.out.1.ge.2.2.1 HL3.out.1.be.size), HL3.out.2.1.of (fun g cur _ hg => ?_), by rw [HM.out.2.2.2]; exact H7.out.1, by have := HM.out.2.2.1; omega, by rw [HM.out.2.2.2]; have := HM.out.2.2.1; omega⟩
          obtain ⟨⟨Cb, hb⟩, es, cl, hm⟩ := HL3.out.1.ax.blks
          rw [H7.out.2.2.box hg (fun h0 => by rw [h0, hb] at hg; injection hg with hg; injection hg with _ hg; exact absurd hg (by decide)) (fun h0 => by rw [h0, hm] at hg; cases hg) ⟨by decide, by decide⟩, hg]⟩
        have k1 : ((M.length : Int) != (M.length : Int)) = false := by simp
        go_upto_region 13 with (go_at_call 12; refine (Len_ax H7.out.2.1).mono ?_; rintro e w5 ⟨rfl, hw5⟩; replace hw5 := hw5.symm; subst hw5)
        have HGP : Aside0 (((M).map km).Perm (((seqN 120 M).drop 0).map km)) := ⟨(HM.out.1.map km).symm⟩
        have HGL : Aside0 ((seqN 120 M).length = M.length) := ⟨HM.out.2.2.2⟩
        have HV0 : Aside0 (∃ n1 L, LfI W n1 (.slice A2 M.length cap) L w3.heap.size (.slice A7 M.length c7) (seqN 120 M) w4 ∧ (L.map km).Perm (((seqN 120 M).drop 0).map km)) := ⟨⟨n1, M, HLF.out, HGP.out⟩⟩
        generalize w3.heap.size = n2 at HV0
        generalize hG : seqN 120 M = G at HV0 HGL
        generalize M.length = m at HV0 HGL ⊢
        clear hG HLF HGP HL3 H7 HM k1
        clear HLIM
        go_wp2
        go_loopw [6, 8] (fun vl i wr => ∃ (i0 : Nat) (n1 : Nat) (L : List En), i0 ≤ m ∧ i = .int .i64 (i0 : Int) ∧ Aside0 (LfI W n1 vl L n2 (.slice A7 m c7) G wr ∧ (L.map km).Perm ((G.drop i0).map km))) (fun _ i _ => m - (intOf i).toNat)
        case atStart =>
          obtain ⟨n1', L', h1, h2⟩ := HV0.out
          exact ⟨0, n1', L', Nat.zero_le _, rfl, ⟨h1, h2⟩⟩
        case round =>
          clear HV0
          obtain ⟨i, n1, L, hil, rfl, HQ⟩ := hrel
          obtain ⟨AL, cL, rfl, hcl⟩ := HQ.out.1.row.form
          by_cases hlt : i < m
          · have b1 : (0 : Int) ≤ (i : Int) := Int.natCast_nonneg i
            have b2 : (i : Int) < (m : Int) := Int.ofNat_lt.2 hlt
            have b3 : decide ((i : Int) < (m : Int)) = true := decide_eq_true b2
            have b4 : decide (i < m) = true := decide_eq_true hlt
            have ht : ((i : Int)).toNat = i := Int.toNat_natCast i
            have HML : Aside0 (m ≤ 1000) := ⟨by have := HQ.out.1.len.2; have := HGL.out; omega⟩
            have hwi : wrap64 ((i : Int) + 1) = (i : Int) + 1 := w64_nat (by have := HML.out; omega)
            have HHi : Aside0 (m - ((i : Int) + 1).toNat < m - ((i : Int)).toNat) := ⟨meas_nat hlt⟩
            have HIL : Aside0 (i + 1 ≤ m) := ⟨hlt⟩
            obtain ⟨x, hgi⟩ : ∃ x, G[i]? = some x := ⟨_, List.getElem?_eq_getElem (Nat.lt_of_lt_of_eq hlt HGL.out.symm)⟩
            have hdr : G.drop i = x :: G.drop (i + 1) := by
              obtain ⟨hlt2, hx2⟩ := List.getElem?_eq_some_iff.1 hgi
              rw [← hx2]
              exact List.drop_eq_getElem_cons hlt2
            have HTO := Aside0.mk (take_out (L := L) (G := G.drop (i + 1)) (x := x) (by rw [← hdr]; exact HQ.out.2))
            have hgot : wr.ownsRow n2 27 2 (.slice A7 m c7) m (fT G) := by have := HQ.out.1.got; rw [HGL.out] at this; exact this
            obtain ⟨gG, rfl, _, _⟩ := own_at hgot hgi HGL.out.symm
            obtain ⟨cG, hcG⟩ : ∃ cG, cG = c7 := ⟨_, rfl⟩
            subst hcG
            have HGI := Aside0.mk hgi
            have HCC := Aside0.mk hcl
            clear hgi hdr hgot hlt hcl
            obtain ⟨wo, hwo⟩ : ∃ wo, wo = wr := ⟨_, rfl⟩
            rw [← hwo] at HQ
            rw [← hwo]
            clear hwo
            go_wp2
            have HS0 : Aside0 (LfI W n1 (.slice AL L.length cL) L n2 (.slice (some ⟨gG, 0, none⟩) m cG) G wo ∧ ∀ (j : Nat) (y : En), j < 0 → L[j]? = some y → km y ≠ km x) := ⟨HQ.out.1, fun j y hj => by omega⟩
            go_loopw [9] (fun u9 wr => ∃ k : Nat, k ≤ L.length ∧ u9 = .int .i64 (k : Int) ∧ Aside0 (LfI W n1 (.slice AL L.length cL) L n2 (.slice (some ⟨gG, 0, none⟩) m cG) G wr ∧ ∀ (j : Nat) (y : En), j < k → L[j]? = some y → km y ≠ km x)) (fun u9 _ => L.length - (intOf u9).toNat)
            case atStart => exact ⟨0, Nat.zero_le _, rfl, HS0⟩
            case round =>
              clear HS0
              obtain ⟨k, hkl, rfl, HS⟩ := hrel
              have HKlt : Aside0 (k < L.length) := ⟨by
                obtain ⟨k2, h1, y2, h2, h3⟩ := HTO.out.1
                refine Classical.byContradiction fun hc => ?_
                exact HS.out.2 k2 y2 (by omega) h2 h3⟩
              have e1 : (0 : Int) ≤ (k : Int) := Int.natCast_nonneg k
              have e2 : (k : Int) < (L.length : Int) := Int.ofNat_lt.2 HKlt.out
              have e3 : decide ((k : Int) < (L.length : Int)) = true := decide_eq_true e2
              have e4 : decide (k < L.length) = true := decide_eq_true HKlt.out
              have et : ((k : Int)).toNat = k := Int.toNat_natCast k
              obtain ⟨y, hy⟩ : ∃ y, L[k]? = some y := ⟨_, List.getElem?_eq_getElem HKlt.out⟩
              have HY := Aside0.mk hy
              obtain ⟨gT, oT, rfl, y0, y1⟩ := rowD_at HS.out.1.row hy rfl
              have hgot : wr.ownsRow n2 27 2 (.slice (some ⟨gG, 0, none⟩) m cG) m (fT G) := by have := HS.out.1.got; rw [HGL.out] at this; exact this
              obtain ⟨g8, hg8, x0, x1⟩ := own_at hgot HGI.out HGL.out.symm
              injection hg8 with hg8
              injection hg8 with hg8 _
              subst hg8
              clear hy hgot hkl
              have hwk : wrap64 ((k : Int) + 1) = (k : Int) + 1 := w64_nat (by have := HS.out.1.len.1; have := HKlt.out; omega)
              have HHk : Aside0 (L.length - ((k : Int) + 1).toNat < L.length - ((k : Int)).toNat) := ⟨meas_nat HKlt.out⟩
              go_upto_region 17 with fail
              by_cases h1 : y.key = x.key
              · have q1 : (y.key == x.key) = true := by simp [h1]
                by_cases h2 : y.mark = x.mark
                · have q2 : (y.mark == x.mark) = true := by simp [h2]
                  have HEQ : Aside0 (km y = km x) := ⟨by unfold km; rw [h1, h2]⟩
                  clear h1 h2
                  go_quiet (fail)
                  have HS2 := Aside0.mk (HS.out.1.below (pw_below_drewN (Below.refl _ _) nq))
                  clear y0 y1 x0 x1
                  generalize wr.drewN nq = ws at HS2 ⊢
                  have HKL : Aside0 (k < L.length) := HKlt
                  have HCL : Aside0 (L.length ≤ cL) := HCC
                  clear hil hj60 hc
                  obtain ⟨k5, k6, n1', n2', n3, n4, n5, n6, n7, n8, n9, hwk2, ht1, p4, p5⟩ := cut_facts HKL.out HCL.out (Nat.le_trans HS.out.1.len.1 (by decide))
                  obtain ⟨c, hcc⟩ : ∃ c, c = cL := ⟨_, rfl⟩
                  subst hcc
                  have HCP := Aside0.mk (cut_caps HKL.out HS.out.1.len.1)
                  replace HQ : Aside0 (LfI W n1 (.slice (some ⟨gT, oT, none⟩) L.length c) L n2 (.slice (some ⟨gG, 0, none⟩) m cG) G ws ∧ True) := ⟨HS2.out, trivial⟩
                  clear HS HS2
                  go_upto_region 21 with fail
                  refine startN (S := fun w' => RowQ w' n1 40 3 (.slice (some ⟨gT, oT, none⟩) L.length c) L.length (fM L)) (N := []) (by kernel_rfl) ?_
                  have hHeld : (fun w' => RowQ w' n1 40 3 (.slice (some ⟨gT, oT, none⟩) L.length c) L.length (fM L)) ws.drew := HQ.out.1.row.below (Below.refl _ _).drew
                  refine takeF (i := 1) (v := _) 80 rfl rfl (by kernel_rfl) (by kernel_rfl) (by kernel_rfl) (fun _ _ _ h => h) (Or.inl ⟨by rfl, fun w' _ => by first | (go_simp; done) | (go_simp; with_reducible rfl) | (go_simp; rfl)⟩) ?_
                  try simp only [Act.put, List.setIfInBounds_toArray, List.set_cons_zero, List.set_cons_succ]
                  refine takeF (i := 2) (v := _) 81 rfl rfl (by kernel_rfl) (by kernel_rfl) (by kernel_rfl) (fun _ _ _ h => h) (Or.inl ⟨by rfl, fun w' _ => by first | (go_simp; done) | (go_simp; with_reducible rfl) | (go_simp; rfl)⟩) ?_
                  try simp only [Act.put, List.setIfInBounds_toArray, List.set_cons_zero, List.set_cons_succ]
                  refine takeF (i := 3) (v := _) 82 rfl rfl (by kernel_rfl) (by kernel_rfl) (by kernel_rfl) (fun _ _ _ h => h) (Or.inl ⟨by rfl, fun w' _ => by first | (go_simp; done) | (go_simp; with_reducible rfl) | (go_simp; rfl)⟩) ?_
                  try simp only [Act.put, List.setIfInBounds_toArray, List.set_cons_zero, List.set_cons_succ]
                  refine takeF (i := 5) (v := _) 84 rfl rfl (by kernel_rfl) (by kernel_rfl) (by kernel_rfl) (fun _ _ _ h => h) (Or.inl ⟨by rfl, fun w' _ => by first | (go_simp; done) | (go_simp; with_reducible rfl) | (go_simp; rfl)⟩) ?_
                  try simp only [Act.put, List.setIfInBounds_toArray, List.set_cons_zero, List.set_cons_succ]
                  refine takeF (i := 6) (v := _) 85 rfl rfl (by kernel_rfl) (by kernel_rfl) (by kernel_rfl) (fun _ _ _ h => h) (Or.inl ⟨by rfl, fun w' _ => by first | (go_simp; done) | (go_simp; with_reducible rfl) | (go_simp; rfl)⟩) ?_
                  try simp only [Act.put, List.setIfInBounds_toArray, List.set_cons_zero, List.set_cons_succ]
                  refine takeF (i := 7) (v := _) 86 rfl rfl (by kernel_rfl) (by kernel_rfl) (by kernel_rfl) (fun _ _ _ h => h) (Or.inl ⟨by rfl, fun w' _ => by first | (go_simp; done) | (go_simp; with_reducible rfl) | (go_simp; rfl)⟩) ?_
                  try simp only [Act.put, List.setIfInBounds_toArray, List.set_cons_zero, List.set_cons_succ]
                  refine takeF (i := 8) (v := _) 87 rfl rfl (by kernel_rfl) (by kernel_rfl) (by kernel_rfl) (fun _ _ _ h => h) (Or.inl ⟨by rfl, fun w' _ => by first | (go_simp; done) | (go_simp; with_reducible rfl) | (go_simp; rfl)⟩) ?_
                  try simp only [Act.put, List.setIfInBounds_toArray, List.set_cons_zero, List.set_cons_succ]
                  have HB4 := Aside0.mk (HQ.out.1.below (Below.refl _ _).drew)
                  clear hHeld
                  generalize ws.drew = w4 at HB4 ⊢
                  refine readyN (rs := [0]) (by kernel_rfl) (by simp) ?_
                  refine eachN.cons rfl (fun K hK => ?_) eachN.nil
                  go_simp
                  have HB5 := Aside0.mk (HB4.out.below ((Below.refl _ _).alloc (Nat.le_refl _) (.cells #[] 40)))
                  try change K _ (w4.alloc (.cells #[] 40))
                  generalize w4.alloc (.cells #[] 40) = w5 at HB5 ⊢
                  generalize w4.heap.size = g9
                  refine hK.out _ _ HB5.out.row (fun hHeld => ?_)
                  clear hK K
                  try simp only [Act.put, List.setIfInBounds_toArray, List.set_cons_zero, List.set_cons_succ]
                  clear hHeld HB4
                  obtain ⟨v2, w6, hrun, hrow, hgr⟩ := run_copy (P := Try.prog) w5 30 30 40 i0 _ 3 24 Try.underlying30 HI0.out.1 HI0.out.2.1 HI0.out.2.2.1 HI0.out.2.2.2 rfl (by decide) ⟨g9, 0, none⟩ (some ⟨gT, oT, none⟩) k c (fM (L.take k)) (by rw [fM_len, List.length_take, Nat.min_eq_left (Nat.le_of_lt HKL.out)]) (src_take HB5.out.row.src k) HCP.out.1 HCP.out.2.1
                  obtain ⟨A2, c2, rfl, hc2⟩ := hrow.form
                  have HRUN := Aside0.mk hrun
                  have HROW := Aside0.mk hrow
                  have HGR := Aside0.mk (grown_below hgr)
                  have HB6 := Aside0.mk (HB5.out.below HGR.out)
                  clear hrun hrow hgr hc2
                  refine readyN (rs := [4]) (by kernel_rfl) (by simp) ?_
                  refine eachN.cons rfl (fun K hK => ?_) eachN.nil
                  rw [if_pos (by rfl)]
                  refine app_at _ (.tmp 79) (.tmp 82) 30 rfl (v1 := .slice (some ⟨g9, 0, none⟩) 0 0) (v2 := .slice (some ⟨gT, oT, none⟩) k c) rfl rfl HRUN.out ?_
                  refine hK.out _ _ HB6.out.row (fun hHeld => ?_)
                  clear hK K
                  try simp only [Act.put, List.setIfInBounds_toArray, List.set_cons_zero, List.set_cons_succ]
                  clear hHeld
                  obtain ⟨v3, w7, hrun, hrow, hon⟩ := run_append_row (P := Try.prog) w6 30 30 40 i0 _ 3 24 Try.underlying30 HI0.out.1 HI0.out.2.1 HI0.out.2.2.1 HI0.out.2.2.2 rfl (by decide) w5.heap.size _ k (fM (L.take k)) HROW.out HGR.out.size (if c = k + 1 then ⟨gT, oT, none⟩ else ⟨gT, oT + (k + 1) * 3, none⟩) (L.length - (k + 1)) (c - (k + 1)) (fM (L.drop (k + 1))) (by rw [fM_len, List.length_drop]) (src_drop HB6.out.row.src ⟨HKL.out, HCL.out⟩) (fM_oneC _) HCP.out.2.2.1 HCP.out.2.2.2.1
                  rw [← ite_some'] at hrun
                  have hlen := cut_len (L := L) HKL.out
                  rw [hlen, ← fM_append] at hrow
                  have hl64 : (L.take k ++ L.drop (k + 1)).length ≤ 1000 := by rw [← hlen]; exact HCP.out.2.2.2.2
                  clear hlen
                  generalize hLL : L.take k ++ L.drop (k + 1) = LL at hrow hl64
                  have HLL := Aside0.mk hLL
                  have HPM : Aside0 ((LL.map km).Perm ((G.drop (i + 1)).map km)) := ⟨by rw [← HLL.out]; exact HTO.out.2 k y HY.out HEQ.out⟩
                  obtain ⟨A3, c3', rfl, hc3⟩ := hrow.form
                  have HRUN2 := Aside0.mk hrun
                  have HB7 : Aside0 (LfI W w5.heap.size (.slice A3 LL.length c3') LL n2 (.slice (some ⟨gG, 0, none⟩) m cG) G w7) := ⟨by have hb7 := HB5.out.below (HGR.out.trans (hon.below HGR.out.size)); exact ⟨hb7.be, hrow, hb7.got, hl64, hb7.len.2⟩⟩
                  have HRW7 : Aside0 (RowQ w7 n1 40 3 (.slice (some ⟨gT, oT, none⟩) L.length c) L.length (fM L)) := ⟨(HB5.out.below (HGR.out.trans (hon.below HGR.out.size))).row⟩
                  clear hrun hrow hon hc3 hl64 hLL
                  refine readyN (rs := [9]) (by kernel_rfl) (by simp) ?_
                  refine eachN.cons rfl (fun K hK => ?_) eachN.nil
                  rw [if_pos (by rfl)]
                  refine app_at _ (.tmp 83) (.tmp 87) 30 rfl (v1 := .slice A2 k c2) (v2 := .slice (if c = k + 1 then some ⟨gT, oT, none⟩ else some ⟨gT, oT + (k + 1) * 3, none⟩) (L.length - (k + 1)) (c - (k + 1))) rfl rfl HRUN2.out ?_
                  refine hK.out _ _ HRW7.out (fun hHeld => ?_)
                  clear hK K
                  try simp only [Act.put, List.setIfInBounds_toArray, List.set_cons_zero, List.set_cons_succ]
                  refine takeF (i := 10) (v := _) 6 rfl rfl (by kernel_rfl) (by kernel_rfl) (by kernel_rfl) (fun _ _ _ h => h) (Or.inl ⟨by rfl, fun w' _ => by first | (go_simp; done) | (go_simp; with_reducible rfl) | (go_simp; rfl)⟩) ?_
                  try simp only [Act.put, List.setIfInBounds_toArray, List.set_cons_zero, List.set_cons_succ]
                  refine doneN (by kernel_rfl) ?_ _
                  go_wp2
                  go_roundw
                  case rel => exact ⟨i + 1, _, LL, HIL.out, (by first | rfl | (rw [hwi]; rfl)), ⟨HB7.out, HPM.out⟩⟩
                  case measure => first | exact HHi.out | (simp only [hwi]; exact HHi.out)
                · have q2 : (y.mark == x.mark) = false := by simp [h2]
                  have HNE : Aside0 (km y ≠ km x) := ⟨fun hc => by unfold km at hc; injection hc with hc1 hc2; exact h2 hc2⟩
                  clear h1 h2
                  go_quiet (fail)
                  have HS2 : Aside0 (LfI W n1 (.slice (some ⟨gT, oT, none⟩) L.length cL) L n2 (.slice (some ⟨gG, 0, none⟩) m cG) G (wr.drewN nq) ∧ ∀ (j : Nat) (y : En), j < k + 1 → L[j]? = some y → km y ≠ km x) := ⟨HS.out.1.below (pw_below_drewN (Below.refl _ _) nq), ne_step HS.out.2 HY.out HNE.out⟩
                  go_wp2
                  go_roundw
                  case rel => exact ⟨k + 1, HKlt.out, (by first | rfl | (rw [hwk]; rfl)), HS2⟩
                  case measure => first | exact HHk.out | (simp only [hwk]; exact HHk.out)
              · have q1 : (y.key == x.key) = false := by simp [h1]
                have HNE : Aside0 (km y ≠ km x) := ⟨fun hc => by unfold km at hc; injection hc with hc1 hc2; exact h1 hc1⟩
                clear h1
                by_cases h2 : y.mark = x.mark
                · have q2 : (y.mark == x.mark) = true := by simp [h2]
                  clear h2
                  go_quiet (fail)
                  have HS2 : Aside0 (LfI W n1 (.slice (some ⟨gT, oT, none⟩) L.length cL) L n2 (.slice (some ⟨gG, 0, none⟩) m cG) G (wr.drewN nq) ∧ ∀ (j : Nat) (y : En), j < k + 1 → L[j]? = some y → km y ≠ km x) := ⟨HS.out.1.below (pw_below_drewN (Below.refl _ _) nq), ne_step HS.out.2 HY.out HNE.out⟩
                  go_wp2
                  go_roundw
                  case rel => exact ⟨k + 1, HKlt.out, (by first | rfl | (rw [hwk]; rfl)), HS2⟩
                  case measure => first | exact HHk.out | (simp only [hwk]; exact HHk.out)
                · have q2 : (y.mark == x.mark) = false := by simp [h2]
                  clear h2
                  go_quiet (fail)
                  have HS2 : Aside0 (LfI W n1 (.slice (some ⟨gT, oT, none⟩) L.length cL) L n2 (.slice (some ⟨gG, 0, none⟩) m cG) G (wr.drewN nq) ∧ ∀ (j : Nat) (y : En), j < k + 1 → L[j]? = some y → km y ≠ km x) := ⟨HS.out.1.below (pw_below_drewN (Below.refl _ _) nq), ne_step HS.out.2 HY.out HNE.out⟩
                  go_wp2
                  go_roundw
                  case rel => exact ⟨k + 1, HKlt.out, (by first | rfl | (rw [hwk]; rfl)), HS2⟩
                  case measure => first | exact HHk.out | (simp only [hwk]; exact HHk.out)
          · have b3 : decide ((i : Int) < (m : Int)) = false := decide_eq_false (by omega)
            have b4 : decide (i < m) = false := decide_eq_false hlt
            have HBE := Aside0.mk HQ.out.1.be
            clear hlt
            go_wp2_with (go_at_call 13; refine (alive_calls _).mono ?_; rintro e w5 ⟨rfl, hl5⟩; have HAL := Aside0.mk (HBE.out.trans (hl5.mono HBE.out.size)); clear hl5)
            go_ret
            exact ⟨rfl, HAL.out⟩
end Go.Proofs.Ythjppjcmapgkpaa.QAg
