/- Texts of this claim, joined: XGDe, ipts. -/
import Derived.Test.YtoliipbmcekciaaDoorZ01
import Derived.Test.YtoliipbmcekciaaDoorZ16
import Derived.Test.YtoliipbmcekciaaDoorZ17
namespace Go.Proofs.YtoliipbmcekciaaDoor.QDd
open Go.RowKit Go.Shelf Go.Proofs.YtoliipbmcekciaaDoorW.PrintWords Go.Proofs.YtoliipbmcekciaaDoorW.PrintLast Go.Proofs.YtoliipbmcekciaaDoorW.PrintMore
open Go.Proofs.YtoliipbmcekciaaDoor.QDc (tk putL putN obj_below take_at yields_blk load_blk load_any run_load_any store_blk blk_setCells setAll far_setCells below_setCells Glob Byte cutB cutB_short)
set_option linter.unusedVariables false
set_option linter.unusedSimpArgs false
attribute [local go_sem] Oper.semAt_some
def rowsOf (C : Cf) (L : List S31) : List (List QDc.S75) := if (chkF C).2 = 0 then scr C.l4 C.a6 L L.length else []
theorem Script_calls (C : Cf) (A : Option Addr) (c : Nat) (L : List S31) (w : World) (hC : C.At w) (hL : C.Lim) (hT : TicksR A c L w) (hg : Glob w) : Calls Tryd.prog 30 #[.agg C.v, .slice A L.length c] w fun e w' => ∃ v, e = .returned (.tuple #[v, .int .i64 (chkF C).2]) ∧ Kd.R kRow 34 w' w.heap.size (fun _ => True) v (rowsOf C L) ∧ Below w.heap.size w w' := by
  unfold rowsOf
  by_cases h : (chkF C).2 = 0
  · rw [if_pos h, h]; exact Script_go C A c L w hC hL hT.toTicks hg h
  · rw [if_neg h]
    refine (Script_no C A L.length c w hC hL h).mono ?_
    rintro e w' ⟨rfl, hb⟩
    exact ⟨_, rfl, Kd.R_nil _ _ _ _ _, hb⟩
theorem RScript_calls (C : Cf) (A : Option Addr) (c : Nat) (L : List S31) (w : World) (hC : C.At w) (hL : C.Lim) (hT : TicksR A c L w) : Calls Tryd.prog 31 #[.agg C.v, .slice A L.length c] w fun e w' => ∃ v, e = .returned (.tuple #[v, .int .i64 (chkF C).2]) ∧ Kd.R kRow 34 w' w.heap.size (fun _ => True) v (rowsOf C L) ∧ Below w.heap.size w w' := by
  unfold rowsOf
  by_cases h : (chkF C).2 = 0
  · rw [if_pos h, h]; exact RScript_go C A c L w hC hL hT h
  · rw [if_neg h]
    refine (RScript_no C A L.length c w hC hL h).mono ?_
    rintro e w' ⟨rfl, hb⟩
    exact ⟨_, rfl, Kd.R_nil _ _ _ _ _, hb⟩
theorem rows_short {C : Cf} {L : List S31} (hs : ∀ t ∈ L, ∀ x ∈ t.f0, x.length ≤ 1000) : ∀ l ∈ rowsOf C L, l.length ≤ 1000 := by
  intro l hl
  unfold rowsOf at hl
  split at hl
  · unfold scr at hl
    obtain ⟨i, hi, rfl⟩ := List.mem_map.1 hl
    have hi := List.mem_range.1 hi
    unfold scrAt
    refine QDc.items_short (fun x hx => ?_) _ _
    rw [List.getD_eq_getElem?_getD, List.getElem?_eq_getElem hi] at hx
    exact hs _ (List.getElem_mem hi) x hx
  · cases hl
theorem rows_len {C : Cf} {L : List S31} : (rowsOf C L).length ≤ L.length := by
  unfold rowsOf
  split
  · rw [scr_len]; omega
  · simp
def cutT (t : S31) : S31 := ⟨cutB t.f0, t.f1⟩
def LC (L : List S31) (m : Nat) : List S31 := (List.range m).map fun i => cutT (L.getD i z31)
theorem LC_len (L : List S31) (m : Nat) : (LC L m).length = m := by unfold LC; rw [List.length_map, List.length_range]
theorem LC_snoc (L : List S31) (m : Nat) : LC L (m + 1) = LC L m ++ [cutT (L.getD m z31)] := by unfold LC; rw [List.range_succ, List.map_append]; rfl
theorem LC_short (L : List S31) (m : Nat) : ∀ t ∈ LC L m, ∀ x ∈ t.f0, x.length ≤ 1000 := by
  intro t ht x hx
  obtain ⟨i, _, rfl⟩ := List.mem_map.1 ht
  exact Nat.le_trans (cutB_short _ x hx) (by omega)
theorem LC_byte {L : List S31} {m : Nat} (hm : m ≤ L.length) (h : ∀ t ∈ L, ∀ x ∈ t.f0, ∀ y ∈ x, Byte y) : ∀ t ∈ LC L m, ∀ x ∈ t.f0, ∀ y ∈ x, Byte y := by
  intro t ht x hx y hy
  obtain ⟨i, hi, rfl⟩ := List.mem_map.1 ht
  have hi := List.mem_range.1 hi
  unfold cutT cutB at hx
  obtain ⟨z, hz, rfl⟩ := List.mem_map.1 hx
  rw [List.getD_eq_getElem?_getD, List.getElem?_eq_getElem (by omega)] at hz
  exact h _ (List.getElem_mem (by omega)) z (List.mem_of_mem_take hz) y (List.mem_of_mem_take hy)
/-- A tick whose bytes are a row of the call's own over bytes that came in. -/
abbrev kB (W : World) : Kd (List Int) := Kd.fixed (Kd.slice 5 (Kd.int .u8)) W
def kT (W : World) : Kd S31 := Kd.iso (Kd.pair (Kd.slice 38 (kB W)) (Kd.fixed (Kd.slice 3 (Kd.int .i64)) W)) (fun x : S31 => (x.f0, x.f1))
theorem kT_mk {W w : World} {base : Nat} {ok : Nat → Prop} {x : S31} {v0 : Value} (g0 : (kB W).R 38 w base ok v0 x.f0) {A1 : Option Addr} {c1 : Nat} (l1 : x.f1.length ≤ c1) (g1 : (Kd.int .i64).C W A1 x.f1.length x.f1) : (kT W).M w base ok x [v0, .slice A1 x.f1.length c1] := ⟨[v0], [.slice A1 x.f1.length c1], rfl, ⟨v0, rfl, g0⟩, ⟨A1, c1, rfl, l1, g1⟩⟩
theorem kT_read {W w : World} (hb : Below W.heap.size W w) {x : S31} {cs : List Value} (h : (kT W).K w x cs) : k31.K w x cs := by
  obtain ⟨_, _, rfl, ⟨A0, c0, rfl, l0, g0⟩, ⟨A1, c1, rfl, l1, g1⟩⟩ := h
  exact ⟨_, _, rfl, ⟨A0, c0, rfl, l0, ReadsRow.imp_ g0 (Below.refl _ _) (fun _ _ hp => (Kd.slice 5 (Kd.int .u8)).K_below hb hp)⟩, ⟨A1, c1, rfl, l1, Kd.C_below g1 hb⟩⟩
theorem kT_C {W w : World} (hb : Below W.heap.size W w) {A : Option Addr} {n : Nat} {xs : List S31} (h : (kT W).C w A n xs) : k31.C w A n xs := ReadsRow.imp_ h (Below.refl _ _) (fun _ _ hp => kT_read hb hp)
theorem kT_pos {W : World} : 0 < (kT W).sz := by show 0 < 2; decide
theorem info31 : (Tryd.prog.info? 31).map (fun i => (i.zero, i.size, i.bytes)) = some (some (.agg #[.slice none 0 0, .slice none 0 0]), 2, 48) := by kernel_rfl
theorem tick_raw {A : Option Addr} {L : List S31} {w : World} (h : Kd.C k31 w A L.length L) (m : Nat) (hm : m < L.length) :
    ∃ ad A0 c0 A1 c1, A = some ad ∧ (∀ j v, #[Value.slice A0 (L.getD m z31).f0.length c0, Value.slice A1 (L.getD m z31).f1.length c1].toList[j]? = some v → w.cell? ((ad.add (m * 2)).add j) = some v) ∧ (L.getD m z31).f0.length ≤ c0 ∧ Kd.C (Kd.slice 5 (Kd.int .u8)) w A0 (L.getD m z31).f0.length (L.getD m z31).f0 ∧ (L.getD m z31).f1.length ≤ c1 ∧ Kd.C (Kd.int .i64) w A1 (L.getD m z31).f1.length (L.getD m z31).f1 := by
  obtain ⟨ad, cs, e, _, hK, hc⟩ := Kd.C_get h z31 (m : Int) (by omega) (by omega)
  rw [Int.toNat_natCast] at hK hc
  obtain ⟨A0, c0, A1, c1, rfl, l0, g0, l1, g1⟩ := QDc.k31_open hK
  refine ⟨ad, A0, c0, A1, c1, e, fun j v hj => ?_, l0, g0, l1, g1⟩
  have := hc j v hj
  rw [show m * k31.sz + j = m * 2 + j from rfl] at this
  rw [add_add']
  exact this
theorem row_at {w : World} {A : Option Addr} {R : List (List QDc.S75)} (h : Kd.C kRow w A R.length R) (j : Nat) (hj : j < R.length) :
    ∃ ad Ae ce, A = some ad ∧ w.cell? (ad.add j) = some (.slice Ae (R.getD j []).length ce) ∧ (R.getD j []).length ≤ ce ∧ Kd.C QDc.k75 w Ae (R.getD j []).length (R.getD j []) := by
  obtain ⟨ad, cs, e, _, hK, hc⟩ := Kd.C_get h [] (j : Int) (by omega) (by omega)
  rw [Int.toNat_natCast] at hK hc
  obtain ⟨Ae, ce, rfl, hl, hC⟩ := hK
  exact ⟨ad, Ae, ce, e, by have := hc 0 _ rfl; rw [show j * kRow.sz + 0 = j from Nat.mul_one _] at this; exact this, hl, hC⟩
structure CI (C : Cf) (W : World) (L : List S31) (v : Value) (m : Nat) (wr : World) : Prop where
  o : OB C W wr
  le : m ≤ L.length
  m20 : m ≤ 20
  r : Kd.R (kT W) 31 wr W.heap.size (fun _ => True) v (LC L m)
theorem CI.below {C : Cf} {W : World} {L : List S31} {v : Value} {m : Nat} {wr w' : World} (h : CI C W L v m wr) (hb : Below wr.heap.size wr w') : CI C W L v m w' := ⟨h.o.below hb, h.le, h.m20, Kd.R_below h.r hb⟩
set_option maxRecDepth 100000 in
set_option maxHeartbeats 4000000 in
theorem DecodeScripts_walk (C : Cf) (A1 : Option Addr) (c1 : Nat) (L : List S31) (W : World) (hC : C.At W) (hu : ∀ x ∈ C.l0, U64 x) (hr : Kd.C k31 W A1 L.length L) (hcap : L.length ≤ c1) (hlen : L.length < 9223372036854775807) (hby : ∀ t ∈ L, ∀ x ∈ t.f0, ∀ y ∈ x, Byte y) (hg : Glob W) :
    Calls Tryd.prog 9 #[.agg C.v, .slice A1 L.length c1] W fun e w' => e = .returned (.bool true) ∧ Below W.heap.size W w' := by
  have HC := Aside0.mk hC
  have HU := Aside0.mk hu
  have HR := Aside0.mk hr
  have HBY := Aside0.mk hby
  have HG := Aside0.mk hg
  have HCAP := Aside0.mk hcap
  have HLEN := Aside0.mk hlen
  clear hC hu hr hby hg hcap hlen
  obtain ⟨b, hb⟩ : ∃ b, smB C = b := ⟨_, rfl⟩
  have HSM := Aside0.mk hb
  clear hb
  go_enter Tryd.func9, Tryd.ntmps9
  go_upto_region 1 with fail
  have HO := Aside0.mk (OB.start C W)
  generalize W.alloc (.cells C.v 28) = w1 at HO ⊢
  cases b with
  | false =>
    go_wp2_with (first | ((with_reducible refine gate_ (.load 28 (.tmp 2)) rfl ?_); refine load_blk rfl 28 (.tmp 2) rfl W.heap.size C.v 28 rfl _ HO.out.e0 Tryd.underlying28 rfl (by kernel_rfl) ?_) | (go_at_call 15; refine (small_hand C _ (HC.out.below HO.out.b)).mono ?_; rintro e w2 ⟨rfl, hB⟩; rw [HSM.out]; have N2 := Aside0.mk hB; clear hB) | (go_at_call 14; refine (QDc.Live.alive_calls _ (HG.out.below ((HO.out.below N2.out).b))).mono ?_; rintro e w3 ⟨rfl, hb⟩; have Aw3 := Aside0.mk hb; clear hb))
    go_ret
    exact ⟨rfl, (HO.out.below N2.out).b.trans (Aw3.out.mono (HO.out.below N2.out).b.size)⟩
  | true =>
    have HL : Aside0 C.Lim := ⟨smB_lim HU.out HSM.out⟩
    go_wp2_with (first | ((with_reducible refine gate_ (.load 28 (.tmp 2)) rfl ?_); refine load_blk rfl 28 (.tmp 2) rfl W.heap.size C.v 28 rfl _ HO.out.e0 Tryd.underlying28 rfl (by kernel_rfl) ?_) | (go_at_call 15; refine (small_hand C _ (HC.out.below HO.out.b)).mono ?_; rintro e w2 ⟨rfl, hB⟩; rw [HSM.out]; have N2 := Aside0.mk hB; clear hB))
    have HI0 : Aside0 (CI C W L (.slice none 0 0) 0 w2) := ⟨⟨HO.out.below N2.out, Nat.zero_le _, by omega, Kd.R_nil _ _ _ _ _⟩⟩
    clear N2 HO
    go_loopw [5, 6] (fun o i wr => ∃ m : Nat, i = .int .i64 (m : Int) ∧ Aside0 (CI C W L o m wr)) (fun _ i _ => L.length - (intOf i).toNat)
    case atStart => exact ⟨0, rfl, HI0⟩
    case round =>
      clear HI0
      obtain ⟨m, rfl, hS⟩ := hrel
      by_cases h1 : m < L.length ∧ m < 20
      · have H1 := Aside0.mk h1
        have d1 : decide ((m : Int) < (L.length : Int)) = true := decide_eq_true (by omega)
        have d2 : decide ((m : Int) < 20) = true := decide_eq_true (by omega)
        have d3 : decide (m < L.length) = true := decide_eq_true h1.1
        have d4 : decide (m < 20) = true := decide_eq_true h1.2
        have hx0 : (0 : Int) ≤ (m : Int) := by omega
        have hx1 : (m : Int) < (L.length : Int) := by omega
        obtain ⟨ad, A0, c0, Ap, cp, eA, hcell, l0, g0, l1, g1⟩ := tick_raw HR.out m h1.1
        subst eA
        obtain ⟨t, ht⟩ : ∃ t, L.getD m z31 = t := ⟨_, rfl⟩
        rw [ht] at hcell l0 g0 l1 g1
        have HTT : Aside0 (LC L (m + 1) = LC L m ++ [cutT t]) := ⟨by rw [LC_snoc, ht]⟩
        have HX := Aside0.mk (And.intro hcell (And.intro l0 (And.intro g0 (And.intro l1 g1))))
        have hw : wrap64 ((m : Int) + 1) = (m : Int) + 1 := by unfold wrap64; omega
        have HH : Aside0 (L.length - ((m : Int) + 1).toNat < L.length - ((m : Int)).toNat) := ⟨by omega⟩
        clear hcell l0 g0 l1 g1 h1 ht
        obtain ⟨vs0, ho0⟩ := Kd.R_own hS.out.r
        have HOW := Aside0.mk ho0
        clear ho0
        go_wp2_with (first | ((with_reducible refine gate_ (.load 31 (.tmp 29)) rfl ?_); refine load_any rfl 31 (.tmp 29) rfl (ad.add (m * 2)) rfl #[.slice A0 t.f0.length c0, .slice Ap t.f1.length cp] _ (fun j v hj => pw_cell_below hS.out.o.b (HX.out.1 j v hj)) Tryd.underlying31 rfl (by kernel_rfl) ?_) | (go_at_call 10; refine (QDc.cut_calls A0 c0 t.f0 Ap t.f1.length cp W _ hS.out.o.b HX.out.2.2.1 HX.out.2.1).mono ?_; rintro e wt ⟨At, ct, vs, rfl, ho, hrep, hb⟩; have HRT := Aside0.mk (show (kB W).R 38 wt wr.heap.size (fun _ => True) (.slice At (cutB t.f0).length ct) (cutB t.f0) from ⟨fun _ _ => trivial, vs, ho, hrep⟩); have NT := Aside0.mk hb; clear ho hrep hb) | ((with_reducible refine gate_builtin (b := .append) rfl ?_); at_builtin; go_loud (refine Kd.R_append (kT W) (w0 := W) W.heap.size rfl (.tmp 26) (.tmp 32) 67 31 (.agg #[.slice none 0 0, .slice none 0 0]) 48 rfl Tryd.underlying67 info31 rfl kT_pos (by decide) _ (LC L m) (cutT t) [.slice At (cutB t.f0).length ct, .slice Ap t.f1.length cp] (fun _ => True) _ rfl rfl (kT_mk (x := cutT t) (Kd.R_lower (Kd.R_new HRT.out HOW.out) hS.out.o.b.size) HX.out.2.2.2.1 HX.out.2.2.2.2) (fun _ h => h) (fun _ _ => trivial) (hS.out.below NT.out).r (hS.out.below NT.out).o.b (hS.out.below NT.out).o.b.size (by rw [LC_len]; have := H1.out; omega) ?_); intro v1 w7 hR7 hB7 hg7 hat7; have HR7 := Aside0.mk (And.intro hR7 (And.intro hB7 hg7)); clear hR7 hB7 hg7 hat7))
        refine ⟨⟨m + 1, by go_num, ⟨⟨⟨HR7.out.2.1, (HR7.out.2.2.block _ (Array.getElem?_eq_some_iff.1 (hS.out.below NT.out).o.e0).1 (Kd.R_ne (hS.out.below NT.out).r (hS.out.below NT.out).o.e0 (by decide))).trans (hS.out.below NT.out).o.e0⟩, by have := H1.out; omega, by have := H1.out; omega, by rw [HTT.out]; exact HR7.out.1⟩⟩⟩, by rw [hw]; exact HH.out⟩
      · have HM : Aside0 (m ≤ L.length ∧ m ≤ 20) := ⟨⟨hS.out.le, hS.out.m20⟩⟩
        obtain ⟨As, cs, eo, hcs, hrd⟩ := Kd.R_reads hS.out.r
        subst eo
        have HT : Aside0 (TicksR As cs (LC L m) wr) := ⟨⟨⟨hcs, by rw [LC_len]; exact hS.out.m20, kT_C hS.out.o.b hrd, LC_short L m⟩, LC_byte hS.out.le HBY.out⟩⟩
        have HOB := Aside0.mk hS.out.o
        clear hS hcs hrd
        obtain ⟨T, hT⟩ : ∃ T, LC L m = T := ⟨_, rfl⟩
        rw [hT] at HT ⊢
        clear hT
        obtain ⟨ce, hce⟩ : ∃ q, (chkF C).2 = q := ⟨_, rfl⟩
        have HCE := Aside0.mk hce
        clear hce
        obtain ⟨Rw, hRw⟩ : ∃ q, rowsOf C T = q := ⟨_, rfl⟩
        have HRW := Aside0.mk hRw
        have HSH : Aside0 (∀ l ∈ Rw, l.length ≤ 1000) := ⟨by rw [← hRw]; exact rows_short HT.out.short⟩
        have HN20 : Aside0 (Rw.length ≤ 20) := ⟨by rw [← hRw]; exact Nat.le_trans rows_len HT.out.most⟩
        clear hRw
        have ARMS : True := trivial
        have dz : (ce != ce) = false := by simp
        by_cases h2 : m < L.length
        · have d1 : decide ((m : Int) < (L.length : Int)) = true := decide_eq_true (by omega)
          have d2 : decide ((m : Int) < 20) = false := decide_eq_false (by omega)
          have d3 : decide (m < L.length) = true := decide_eq_true h2
          have d4 : decide (m < 20) = false := decide_eq_false (by omega)
          clear h1 h2
          go_upto_region 10 with (first | ((with_reducible refine gate_ (.load 28 (.tmp 2)) rfl ?_); refine load_blk rfl 28 (.tmp 2) rfl W.heap.size C.v 28 rfl _ (by first | exact HOB.out.e0 | exact (HOB.out.below NA.out).e0) Tryd.underlying28 rfl (by kernel_rfl) ?_) | (go_at_call 30; refine (Script_calls C As cs T _ (HC.out.below HOB.out.b) HL.out HT.out (HG.out.below HOB.out.b)).mono ?_; rintro e wa ⟨va, rfl, hRa, hb⟩; rw [HCE.out]; rw [HRW.out] at hRa; have HRA := Aside0.mk hRa; have NA := Aside0.mk hb; obtain ⟨Aa, ca, rfl, hca, hCa⟩ := Kd.R_reads hRa; have HCA := Aside0.mk (And.intro hca hCa); clear hRa hb hca hCa) | (go_at_call 31; refine (RScript_calls C As cs T _ (HC.out.below (HOB.out.below NA.out).b) HL.out ⟨HT.out.toTicks.below NA.out, HT.out.byte⟩).mono ?_; rintro e wb ⟨vb, rfl, hRb, hb⟩; rw [HCE.out]; rw [HRW.out] at hRb; have HRB := Aside0.mk hRb; have NB := Aside0.mk hb; obtain ⟨Ab, cb, rfl, hcb, hCb⟩ := Kd.R_reads hRb; have HCB := Aside0.mk (And.intro hcb hCb); clear hRb hb hcb hCb))
          clear dz d1 d3
          go_upto_region 11 with fail
          have HOB2 : Aside0 (Below W.heap.size W wb) := ⟨((HOB.out.below NA.out).below NB.out).b⟩
          have HCA2 : Aside0 (Kd.C kRow wb Aa Rw.length Rw) := ⟨Kd.C_below HCA.out.2 NB.out⟩
          clear HRA HRB NA NB HOB HCE HRW HT ARMS
          go_loopw [11] (fun i wr2 => ∃ j : Nat, i = .int .i64 (j : Int) ∧ Aside0 (j ≤ Rw.length ∧ Below wb.heap.size wb wr2)) (fun i _ => Rw.length - (intOf i).toNat)
          case atStart => exact ⟨0, rfl, ⟨Nat.zero_le _, Below.refl _ _⟩⟩
          case round =>
            obtain ⟨j, rfl, hS⟩ := hrel
            by_cases h1 : j < Rw.length
            · have H1 := Aside0.mk h1
              have d1 : decide ((j : Int) < (Rw.length : Int)) = true := decide_eq_true (by omega)
              have d3 : decide (j < Rw.length) = true := decide_eq_true h1
              have hx0 : (0 : Int) ≤ (j : Int) := by omega
              have hx1 : (j : Int) < (Rw.length : Int) := by omega
              have hw : wrap64 ((j : Int) + 1) = (j : Int) + 1 := by have := HN20.out; unfold wrap64; omega
              have HH : Aside0 (Rw.length - ((j : Int) + 1).toNat < Rw.length - ((j : Int)).toNat) := ⟨by omega⟩
              obtain ⟨adA, Ax, cx, eA, qA, lA, gA⟩ := row_at (Kd.C_below HCA2.out hS.out.2) j h1
              obtain ⟨adB, Ay, cy, eB, qB, lB, gB⟩ := row_at (Kd.C_below HCB.out.2 hS.out.2) j h1
              subst eA
              subst eB
              have hel : (Rw.getD j []).length ≤ 1000 := by rw [List.getD_eq_getElem?_getD, List.getElem?_eq_getElem h1]; exact HSH.out _ (List.getElem_mem h1)
              generalize Rw.getD j [] = el at hel qA lA gA qB lB gB
              have HE := Aside0.mk (And.intro hel (And.intro lA (And.intro gA (And.intro lB gB))))
              clear hel lA gA lB gB h1
              go_upto_region 15 with fail
              refine wp_region_held_drew (S := fun w' => Below wr.heap.size wr w') (by kernel_rfl) (pw_below_drewN (Below.refl _ _) 1) (fun hHeld => ?_)
              generalize wr.drew = wd at hHeld ⊢
              refine tk (i := 0) (v := _) 62 rfl (Or.inl ⟨by rfl, fun w' hW => by have hqA := pw_cell_below hW qA; have hqB := pw_cell_below hW qB; go_simp; try (first | with_reducible rfl | rfl)⟩) hHeld ?_
              try simp only [putL, putN, List.set]
              refine tk (i := 1) (v := _) 63 rfl (Or.inl ⟨by rfl, fun w' hW => by have hqA := pw_cell_below hW qA; have hqB := pw_cell_below hW qB; go_simp; try (first | with_reducible rfl | rfl)⟩) hHeld ?_
              try simp only [putL, putN, List.set]
              refine tk (i := 4) (v := _) 66 rfl (Or.inl ⟨by rfl, fun w' hW => by have hqA := pw_cell_below hW qA; have hqB := pw_cell_below hW qB; go_simp; try (first | with_reducible rfl | rfl)⟩) hHeld ?_
              try simp only [putL, putN, List.set]
              refine tk (i := 5) (v := _) 67 rfl (Or.inl ⟨by rfl, fun w' hW => by have hqA := pw_cell_below hW qA; have hqB := pw_cell_below hW qB; go_simp; try (first | with_reducible rfl | rfl)⟩) hHeld ?_
              try simp only [putL, putN, List.set]
              refine tk (i := 2) (v := _) 64 rfl (Or.inl ⟨by rfl, fun w' hW => by have hqA := pw_cell_below hW qA; have hqB := pw_cell_below hW qB; go_simp; try (first | with_reducible rfl | rfl)⟩) hHeld ?_
              try simp only [putL, putN, List.set]
              refine tk (i := 6) (v := _) 68 rfl (Or.inl ⟨by rfl, fun w' hW => by have hqA := pw_cell_below hW qA; have hqB := pw_cell_below hW qB; go_simp; try (first | with_reducible rfl | rfl)⟩) hHeld ?_
              try simp only [putL, putN, List.set]
              refine tk (i := 3) (v := _) 65 rfl (Or.inl ⟨by rfl, fun w' hW => by have hqA := pw_cell_below hW qA; have hqB := pw_cell_below hW qB; go_simp; try (first | with_reducible rfl | rfl)⟩) hHeld ?_
              try simp only [putL, putN, List.set]
              refine tk (i := 7) (v := _) 69 rfl (Or.inl ⟨by rfl, fun w' hW => by have hqA := pw_cell_below hW qA; have hqB := pw_cell_below hW qB; go_simp; try (first | with_reducible rfl | rfl)⟩) hHeld ?_
              try simp only [putL, putN, List.set]
              have N0 := Aside0.mk hHeld
              refine wpAnyH_ready (rs := [8]) (by kernel_rfl) (by simp) ?_
              refine AllReadyH.cons rfl (fun K hK => ?_) AllReadyH.nil
              go_simp
              go_wp2_with (first | (go_at_call 11; refine (QDc.rampartref21_Same.calls 1001 _ _ _ _ _ _ true _ (Kd.C_below HE.out.2.2.1 N0.out) HE.out.2.1 (Kd.C_below HE.out.2.2.2.2 N0.out) HE.out.2.2.2.1 (QDc.same_self _ HE.out.1)).mono ?_; rintro e w6 ⟨rfl, hb⟩; have N6 := Aside0.mk (below_step N0.out (QDc.drawn_below hb)); clear hb))
              clear hHeld
              refine hK.out _ _ N6.out (fun hHeld => ?_)
              clear hK K
              try simp only [putL, putN, List.set]
              refine tk (i := 9) (v := _) 71 rfl (Or.inl ⟨by rfl, fun w' hW => by have hqA := pw_cell_below hW qA; have hqB := pw_cell_below hW qB; go_simp; try (first | with_reducible rfl | rfl)⟩) hHeld ?_
              try simp only [putL, putN, List.set]
              refine wpAnyH_done (by kernel_rfl) ?_ _
              clear hHeld
              go_wp2_with fail
              refine ⟨⟨j + 1, by rw [hw]; rfl, ⟨by have := H1.out; omega, hS.out.2.trans (N6.out.mono hS.out.2.size)⟩⟩, by rw [hw]; exact HH.out⟩
            · have d1 : decide ((j : Int) < (Rw.length : Int)) = false := decide_eq_false (by omega)
              have d3 : decide (j < Rw.length) = false := decide_eq_false h1
              go_wp2_with (go_at_call 14; refine (QDc.Live.alive_calls _ (HG.out.below (HOB2.out.trans (hS.out.2.mono HOB2.out.size)))).mono ?_; rintro e w3 ⟨rfl, hb⟩; have Aw3 := Aside0.mk hb; clear hb)
              go_ret
              exact ⟨rfl, (HOB2.out.trans (hS.out.2.mono HOB2.out.size)).trans (Aw3.out.mono (HOB2.out.trans (hS.out.2.mono HOB2.out.size)).size)⟩
        · have d1 : decide ((m : Int) < (L.length : Int)) = false := decide_eq_false (by omega)
          have d3 : decide (m < L.length) = false := decide_eq_false h2
          clear h1 h2
          go_upto_region 10 with (first | ((with_reducible refine gate_ (.load 28 (.tmp 2)) rfl ?_); refine load_blk rfl 28 (.tmp 2) rfl W.heap.size C.v 28 rfl _ (by first | exact HOB.out.e0 | exact (HOB.out.below NA.out).e0) Tryd.underlying28 rfl (by kernel_rfl) ?_) | (go_at_call 30; refine (Script_calls C As cs T _ (HC.out.below HOB.out.b) HL.out HT.out (HG.out.below HOB.out.b)).mono ?_; rintro e wa ⟨va, rfl, hRa, hb⟩; rw [HCE.out]; rw [HRW.out] at hRa; have HRA := Aside0.mk hRa; have NA := Aside0.mk hb; obtain ⟨Aa, ca, rfl, hca, hCa⟩ := Kd.R_reads hRa; have HCA := Aside0.mk (And.intro hca hCa); clear hRa hb hca hCa) | (go_at_call 31; refine (RScript_calls C As cs T _ (HC.out.below (HOB.out.below NA.out).b) HL.out ⟨HT.out.toTicks.below NA.out, HT.out.byte⟩).mono ?_; rintro e wb ⟨vb, rfl, hRb, hb⟩; rw [HCE.out]; rw [HRW.out] at hRb; have HRB := Aside0.mk hRb; have NB := Aside0.mk hb; obtain ⟨Ab, cb, rfl, hcb, hCb⟩ := Kd.R_reads hRb; have HCB := Aside0.mk (And.intro hcb hCb); clear hRb hb hcb hCb))
          clear dz d1 d3
          go_upto_region 11 with fail
          have HOB2 : Aside0 (Below W.heap.size W wb) := ⟨((HOB.out.below NA.out).below NB.out).b⟩
          have HCA2 : Aside0 (Kd.C kRow wb Aa Rw.length Rw) := ⟨Kd.C_below HCA.out.2 NB.out⟩
          clear HRA HRB NA NB HOB HCE HRW HT ARMS
          go_loopw [11] (fun i wr2 => ∃ j : Nat, i = .int .i64 (j : Int) ∧ Aside0 (j ≤ Rw.length ∧ Below wb.heap.size wb wr2)) (fun i _ => Rw.length - (intOf i).toNat)
          case atStart => exact ⟨0, rfl, ⟨Nat.zero_le _, Below.refl _ _⟩⟩
          case round =>
            obtain ⟨j, rfl, hS⟩ := hrel
            by_cases h1 : j < Rw.length
            · have H1 := Aside0.mk h1
              have d1 : decide ((j : Int) < (Rw.length : Int)) = true := decide_eq_true (by omega)
              have d3 : decide (j < Rw.length) = true := decide_eq_true h1
              have hx0 : (0 : Int) ≤ (j : Int) := by omega
              have hx1 : (j : Int) < (Rw.length : Int) := by omega
              have hw : wrap64 ((j : Int) + 1) = (j : Int) + 1 := by have := HN20.out; unfold wrap64; omega
              have HH : Aside0 (Rw.length - ((j : Int) + 1).toNat < Rw.length - ((j : Int)).toNat) := ⟨by omega⟩
              obtain ⟨adA, Ax, cx, eA, qA, lA, gA⟩ := row_at (Kd.C_below HCA2.out hS.out.2) j h1
              obtain ⟨adB, Ay, cy, eB, qB, lB, gB⟩ := row_at (Kd.C_below HCB.out.2 hS.out.2) j h1
              subst eA
              subst eB
              have hel : (Rw.getD j []).length ≤ 1000 := by rw [List.getD_eq_getElem?_getD, List.getElem?_eq_getElem h1]; exact HSH.out _ (List.getElem_mem h1)
              generalize Rw.getD j [] = el at hel qA lA gA qB lB gB
              have HE := Aside0.mk (And.intro hel (And.intro lA (And.intro gA (And.intro lB gB))))
              clear hel lA gA lB gB h1
              go_upto_region 15 with fail
              refine wp_region_held_drew (S := fun w' => Below wr.heap.size wr w') (by kernel_rfl) (pw_below_drewN (Below.refl _ _) 1) (fun hHeld => ?_)
              generalize wr.drew = wd at hHeld ⊢
              refine tk (i := 0) (v := _) 62 rfl (Or.inl ⟨by rfl, fun w' hW => by have hqA := pw_cell_below hW qA; have hqB := pw_cell_below hW qB; go_simp; try (first | with_reducible rfl | rfl)⟩) hHeld ?_
              try simp only [putL, putN, List.set]
              refine tk (i := 1) (v := _) 63 rfl (Or.inl ⟨by rfl, fun w' hW => by have hqA := pw_cell_below hW qA; have hqB := pw_cell_below hW qB; go_simp; try (first | with_reducible rfl | rfl)⟩) hHeld ?_
              try simp only [putL, putN, List.set]
              refine tk (i := 4) (v := _) 66 rfl (Or.inl ⟨by rfl, fun w' hW => by have hqA := pw_cell_below hW qA; have hqB := pw_cell_below hW qB; go_simp; try (first | with_reducible rfl | rfl)⟩) hHeld ?_
              try simp only [putL, putN, List.set]
              refine tk (i := 5) (v := _) 67 rfl (Or.inl ⟨by rfl, fun w' hW => by have hqA := pw_cell_below hW qA; have hqB := pw_cell_below hW qB; go_simp; try (first | with_reducible rfl | rfl)⟩) hHeld ?_
              try simp only [putL, putN, List.set]
              refine tk (i := 2) (v := _) 64 rfl (Or.inl ⟨by rfl, fun w' hW => by have hqA := pw_cell_below hW qA; have hqB := pw_cell_below hW qB; go_simp; try (first | with_reducible rfl | rfl)⟩) hHeld ?_
              try simp only [putL, putN, List.set]
              refine tk (i := 6) (v := _) 68 rfl (Or.inl ⟨by rfl, fun w' hW => by have hqA := pw_cell_below hW qA; have hqB := pw_cell_below hW qB; go_simp; try (first | with_reducible rfl | rfl)⟩) hHeld ?_
              try simp only [putL, putN, List.set]
              refine tk (i := 3) (v := _) 65 rfl (Or.inl ⟨by rfl, fun w' hW => by have hqA := pw_cell_below hW qA; have hqB := pw_cell_below hW qB; go_simp; try (first | with_reducible rfl | rfl)⟩) hHeld ?_
              try simp only [putL, putN, List.set]
              refine tk (i := 7) (v := _) 69 rfl (Or.inl ⟨by rfl, fun w' hW => by have hqA := pw_cell_below hW qA; have hqB := pw_cell_below hW qB; go_simp; try (first | with_reducible rfl | rfl)⟩) hHeld ?_
              try simp only [putL, putN, List.set]
              have N0 := Aside0.mk hHeld
              refine wpAnyH_ready (rs := [8]) (by kernel_rfl) (by simp) ?_
              refine AllReadyH.cons rfl (fun K hK => ?_) AllReadyH.nil
              go_simp
              go_wp2_with (first | (go_at_call 11; refine (QDc.rampartref21_Same.calls 1001 _ _ _ _ _ _ true _ (Kd.C_below HE.out.2.2.1 N0.out) HE.out.2.1 (Kd.C_below HE.out.2.2.2.2 N0.out) HE.out.2.2.2.1 (QDc.same_self _ HE.out.1)).mono ?_; rintro e w6 ⟨rfl, hb⟩; have N6 := Aside0.mk (below_step N0.out (QDc.drawn_below hb)); clear hb))
              clear hHeld
              refine hK.out _ _ N6.out (fun hHeld => ?_)
              clear hK K
              try simp only [putL, putN, List.set]
              refine tk (i := 9) (v := _) 71 rfl (Or.inl ⟨by rfl, fun w' hW => by have hqA := pw_cell_below hW qA; have hqB := pw_cell_below hW qB; go_simp; try (first | with_reducible rfl | rfl)⟩) hHeld ?_
              try simp only [putL, putN, List.set]
              refine wpAnyH_done (by kernel_rfl) ?_ _
              clear hHeld
              go_wp2_with fail
              refine ⟨⟨j + 1, by rw [hw]; rfl, ⟨by have := H1.out; omega, hS.out.2.trans (N6.out.mono hS.out.2.size)⟩⟩, by rw [hw]; exact HH.out⟩
            · have d1 : decide ((j : Int) < (Rw.length : Int)) = false := decide_eq_false (by omega)
              have d3 : decide (j < Rw.length) = false := decide_eq_false h1
              go_wp2_with (go_at_call 14; refine (QDc.Live.alive_calls _ (HG.out.below (HOB2.out.trans (hS.out.2.mono HOB2.out.size)))).mono ?_; rintro e w3 ⟨rfl, hb⟩; have Aw3 := Aside0.mk hb; clear hb)
              go_ret
              exact ⟨rfl, (HOB2.out.trans (hS.out.2.mono HOB2.out.size)).trans (Aw3.out.mono (HOB2.out.trans (hS.out.2.mono HOB2.out.size)).size)⟩
theorem byte_of31 {x : Int} (h : (Lit.int .u8 x).wf = true) : Byte x := by
  simp only [Lit.wf, IntKind.min, IntKind.max, IntKind.signed, IntKind.bits, Bool.and_eq_true, decide_eq_true_eq] at h
  unfold Byte
  simp at h
  omega
theorem u64_of9 {x : Int} (h : (Lit.int .u64 x).wf = true) : U64 x := by
  simp only [Lit.wf, IntKind.min, IntKind.max, IntKind.signed, IntKind.bits, Bool.and_eq_true, decide_eq_true_eq] at h
  unfold U64
  simp at h
  omega
theorem DecodeScripts_hand (A0_0 : Option Addr) (c0_0 : Nat) (l0_0 : List Int) (A0_1 : Option Addr) (c0_1 : Nat) (l0_1 : List S97) (A0_2 : Option Addr) (c0_2 : Nat) (l0_2 : List S87) (A0_3 : Option Addr) (c0_3 : Nat) (l0_3 : List S107) (A0_4 : Option Addr) (c0_4 : Nat) (l0_4 : List Int) (a0_5 a0_6 a0_7 : Int) (A1 : Option Addr) (c1 : Nat) (l1 : List S31) (W : World) (hr0_0 : Kd.C (Kd.int .u64) W A0_0 l0_0.length l0_0) (hc0_0 : l0_0.length ≤ c0_0) (hr0_1 : Kd.C k97 W A0_1 l0_1.length l0_1) (hc0_1 : l0_1.length ≤ c0_1) (hr0_2 : Kd.C k87 W A0_2 l0_2.length l0_2) (hc0_2 : l0_2.length ≤ c0_2) (hr0_3 : Kd.C k107 W A0_3 l0_3.length l0_3) (hc0_3 : l0_3.length ≤ c0_3) (hr0_4 : Kd.C (Kd.int .i64) W A0_4 l0_4.length l0_4) (hc0_4 : l0_4.length ≤ c0_4) (hr1 : Kd.C k31 W A1 l1.length l1) (hc1 : l1.length ≤ c1)
    {P0 : Prop} {Q : S31 → Prop} (h0 : (l0_0.length * 8 ≤ 140737488351232 ∧ ∀ x ∈ l0_0, (Lit.int .u64 x).wf = true) ∧ P0) (h1 : l1.length * 48 ≤ 140737488351232 ∧ ∀ t ∈ l1, (t.f0.length * 24 ≤ 140737488351232 ∧ ∀ x ∈ t.f0, x.length * 1 ≤ 140737488351232 ∧ ∀ y ∈ x, (Lit.int .u8 y).wf = true) ∧ Q t) (hg : Glob W) :
    Calls Tryd.prog 9 #[.agg #[.slice A0_0 l0_0.length c0_0, .slice A0_1 l0_1.length c0_1, .slice A0_2 l0_2.length c0_2, .slice A0_3 l0_3.length c0_3, .slice A0_4 l0_4.length c0_4, .int .i64 a0_5, .int .i64 a0_6, .int .i64 a0_7], .slice A1 l1.length c1] W fun e w' => e = .returned (.bool true) ∧ Below W.heap.size W w' :=
  DecodeScripts_walk ⟨A0_0, c0_0, l0_0, A0_1, c0_1, l0_1, A0_2, c0_2, l0_2, A0_3, c0_3, l0_3, A0_4, c0_4, l0_4, a0_5, a0_6, a0_7⟩ A1 c1 l1 W ⟨hr0_0, hc0_0, hr0_1, hc0_1, hr0_2, hc0_2, hr0_3, hc0_3, hr0_4, hc0_4⟩ (fun x hx => u64_of9 (h0.1.2 x hx)) hr1 hc1 (by have := h1.1; omega) (fun t ht x hx y hy => byte_of31 (((h1.2 t ht).1.2 x hx).2 y hy)) hg
end Go.Proofs.YtoliipbmcekciaaDoor.QDd

namespace Go.Proofs.YtoliipbmcekciaaDoor.ODecodeScripts
open Go.RowKit Go.ChangeShapes Go.WideShapes Go.ChangeAt Go.Proofs.YtoliipbmcekciaaDoorW.PrintWords Go.Proofs.YtoliipbmcekciaaDoor.LO Go.Proofs.YtoliipbmcekciaaDoor.QDd
set_option linter.unusedVariables false
theorem cells45 : Tryd.prog.cellsOf 45 = 1 := by kernel_rfl
theorem op_45 : Opens Tryd.prog 45 (Kd.int .u64) (fun n : Int => (Lit.int .u64 n).wf = true) := opens_int Tryd.underlying45
theorem cells22 : Tryd.prog.cellsOf 22 = 1 := by kernel_rfl
theorem op_22 : Opens Tryd.prog 22 (Kd.slice 45 (Kd.int .u64)) (fun l : List Int => l.length * 8 ≤ 140737488351232 ∧ ∀ x ∈ l, (fun n : Int => (Lit.int .u64 n).wf = true) x) := opens_slice (B := 8) Tryd.underlying22 (cells45.trans rfl) (by kernel_rfl) op_45
theorem cells3 : Tryd.prog.cellsOf 3 = 1 := by kernel_rfl
theorem op_3 : Opens Tryd.prog 3 (Kd.int .i64) (fun n : Int => (Lit.int .i64 n).wf = true) := opens_int Tryd.underlying3
theorem cells97 : Tryd.prog.cellsOf 97 = 2 := by kernel_rfl
def B97 (x : S97) : Prop := (fun n : Int => (Lit.int .i64 n).wf = true) x.f0 ∧ (fun n : Int => (Lit.int .i64 n).wf = true) x.f1
theorem op_97 : Opens Tryd.prog 97 k97 B97 := by
  intro H enc W fuel cs x h hw
  obtain ⟨xs, n, _, rfl, hl, hxl, hf⟩ := DataW.trod_struct Tryd.underlying97 h
  have hl' : cs.length = 2 := hl.trans cells97
  have g0 : xs.length = 2 := hxl
  obtain ⟨y0, xs0, rfl, g1⟩ := len_succ g0
  obtain ⟨y1, xs1, rfl, g2⟩ := len_succ g1
  obtain rfl := len_zero g2
  simp only [DataW.weights, Tryd.underlying97] at hw
  have e0 : DataW.trod enc Tryd.prog W 0 (fun _ => true) true n 3 ((cs.drop 0).take (Tryd.prog.cellsOf 3)) = some y0 := hf 0 _ rfl
  rw [cells3] at e0
  have w0 := each_cons (t := 3) (d := y0.1) hw
  obtain ⟨a0, K0, b0⟩ := op_3 H enc W n _ _ e0 w0.1
  have e1 : DataW.trod enc Tryd.prog W 0 (fun _ => true) true n 3 ((cs.drop 1).take (Tryd.prog.cellsOf 3)) = some y1 := hf 1 _ rfl
  rw [cells3] at e1
  have w1 := each_cons (t := 3) (d := y1.1) w0.2
  obtain ⟨a1, K1, b1⟩ := op_3 H enc W n _ _ e1 w1.1
  refine ⟨⟨a0, a1⟩, ?_, ⟨b0, b1⟩⟩
  rw [cutl cs 1 1 hl'] at K1
  exact ⟨_, _, cut0 cs 1, K0, K1⟩
theorem cells23 : Tryd.prog.cellsOf 23 = 1 := by kernel_rfl
theorem op_23 : Opens Tryd.prog 23 (Kd.slice 97 k97) (fun l : List S97 => l.length * 16 ≤ 140737488351232 ∧ ∀ x ∈ l, B97 x) := opens_slice (B := 16) Tryd.underlying23 (cells97.trans rfl) (by kernel_rfl) op_97
theorem cells4 : Tryd.prog.cellsOf 4 = 1 := by kernel_rfl
theorem op_4 : Opens Tryd.prog 4 Kd.bool (fun _ : Bool => True) := opens_bool Tryd.underlying4
theorem cells103 : Tryd.prog.cellsOf 103 = 3 := by kernel_rfl
def B103 (x : S103) : Prop := (fun n : Int => (Lit.int .i64 n).wf = true) x.f0 ∧ (fun n : Int => (Lit.int .i64 n).wf = true) x.f1 ∧ (fun _ : Bool => True) x.f2
theorem op_103 : Opens Tryd.prog 103 k103 B103 := by
  intro H enc W fuel cs x h hw
  obtain ⟨xs, n, _, rfl, hl, hxl, hf⟩ := DataW.trod_struct Tryd.underlying103 h
  have hl' : cs.length = 3 := hl.trans cells103
  have g0 : xs.length = 3 := hxl
  obtain ⟨y0, xs0, rfl, g1⟩ := len_succ g0
  obtain ⟨y1, xs1, rfl, g2⟩ := len_succ g1
  obtain ⟨y2, xs2, rfl, g3⟩ := len_succ g2
  obtain rfl := len_zero g3
  simp only [DataW.weights, Tryd.underlying103] at hw
  have e0 : DataW.trod enc Tryd.prog W 0 (fun _ => true) true n 3 ((cs.drop 0).take (Tryd.prog.cellsOf 3)) = some y0 := hf 0 _ rfl
  rw [cells3] at e0
  have w0 := each_cons (t := 3) (d := y0.1) hw
  obtain ⟨a0, K0, b0⟩ := op_3 H enc W n _ _ e0 w0.1
  have e1 : DataW.trod enc Tryd.prog W 0 (fun _ => true) true n 3 ((cs.drop 1).take (Tryd.prog.cellsOf 3)) = some y1 := hf 1 _ rfl
  rw [cells3] at e1
  have w1 := each_cons (t := 3) (d := y1.1) w0.2
  obtain ⟨a1, K1, b1⟩ := op_3 H enc W n _ _ e1 w1.1
  have e2 : DataW.trod enc Tryd.prog W 0 (fun _ => true) true n 4 ((cs.drop 2).take (Tryd.prog.cellsOf 4)) = some y2 := hf 2 _ rfl
  rw [cells4] at e2
  have w2 := each_cons (t := 4) (d := y2.1) w1.2
  obtain ⟨a2, K2, b2⟩ := op_4 H enc W n _ _ e2 w2.1
  refine ⟨⟨a0, a1, a2⟩, ?_, ⟨b0, b1, b2⟩⟩
  rw [cutl cs 2 1 hl'] at K2
  exact ⟨_, _, cut0 cs 1, K0, ⟨_, _, cut cs 1 1 2 rfl, K1, K2⟩⟩
theorem cells84 : Tryd.prog.cellsOf 84 = 1 := by kernel_rfl
theorem op_84 : Opens Tryd.prog 84 (Kd.slice 103 k103) (fun l : List S103 => l.length * 24 ≤ 140737488351232 ∧ ∀ x ∈ l, B103 x) := opens_slice (B := 24) Tryd.underlying84 (cells103.trans rfl) (by kernel_rfl) op_103
theorem cells105 : Tryd.prog.cellsOf 105 = 2 := by kernel_rfl
def B105 (x : S105) : Prop := (fun n : Int => (Lit.int .i64 n).wf = true) x.f0 ∧ (fun _ : Bool => True) x.f1
theorem op_105 : Opens Tryd.prog 105 k105 B105 := by
  intro H enc W fuel cs x h hw
  obtain ⟨xs, n, _, rfl, hl, hxl, hf⟩ := DataW.trod_struct Tryd.underlying105 h
  have hl' : cs.length = 2 := hl.trans cells105
  have g0 : xs.length = 2 := hxl
  obtain ⟨y0, xs0, rfl, g1⟩ := len_succ g0
  obtain ⟨y1, xs1, rfl, g2⟩ := len_succ g1
  obtain rfl := len_zero g2
  simp only [DataW.weights, Tryd.underlying105] at hw
  have e0 : DataW.trod enc Tryd.prog W 0 (fun _ => true) true n 3 ((cs.drop 0).take (Tryd.prog.cellsOf 3)) = some y0 := hf 0 _ rfl
  rw [cells3] at e0
  have w0 := each_cons (t := 3) (d := y0.1) hw
  obtain ⟨a0, K0, b0⟩ := op_3 H enc W n _ _ e0 w0.1
  have e1 : DataW.trod enc Tryd.prog W 0 (fun _ => true) true n 4 ((cs.drop 1).take (Tryd.prog.cellsOf 4)) = some y1 := hf 1 _ rfl
  rw [cells4] at e1
  have w1 := each_cons (t := 4) (d := y1.1) w0.2
  obtain ⟨a1, K1, b1⟩ := op_4 H enc W n _ _ e1 w1.1
  refine ⟨⟨a0, a1⟩, ?_, ⟨b0, b1⟩⟩
  rw [cutl cs 1 1 hl'] at K1
  exact ⟨_, _, cut0 cs 1, K0, K1⟩
theorem cells85 : Tryd.prog.cellsOf 85 = 1 := by kernel_rfl
theorem op_85 : Opens Tryd.prog 85 (Kd.slice 105 k105) (fun l : List S105 => l.length * 16 ≤ 140737488351232 ∧ ∀ x ∈ l, B105 x) := opens_slice (B := 16) Tryd.underlying85 (cells105.trans rfl) (by kernel_rfl) op_105
theorem cells87 : Tryd.prog.cellsOf 87 = 3 := by kernel_rfl
def B87 (x : S87) : Prop := (fun n : Int => (Lit.int .i64 n).wf = true) x.f0 ∧ (fun l : List S103 => l.length * 24 ≤ 140737488351232 ∧ ∀ x ∈ l, B103 x) x.f1 ∧ (fun l : List S105 => l.length * 16 ≤ 140737488351232 ∧ ∀ x ∈ l, B105 x) x.f2
theorem op_87 : Opens Tryd.prog 87 k87 B87 := by
  intro H enc W fuel cs x h hw
  obtain ⟨xs, n, _, rfl, hl, hxl, hf⟩ := DataW.trod_struct Tryd.underlying87 h
  have hl' : cs.length = 3 := hl.trans cells87
  have g0 : xs.length = 3 := hxl
  obtain ⟨y0, xs0, rfl, g1⟩ := len_succ g0
  obtain ⟨y1, xs1, rfl, g2⟩ := len_succ g1
  obtain ⟨y2, xs2, rfl, g3⟩ := len_succ g2
  obtain rfl := len_zero g3
  simp only [DataW.weights, Tryd.underlying87] at hw
  have e0 : DataW.trod enc Tryd.prog W 0 (fun _ => true) true n 3 ((cs.drop 0).take (Tryd.prog.cellsOf 3)) = some y0 := hf 0 _ rfl
  rw [cells3] at e0
  have w0 := each_cons (t := 3) (d := y0.1) hw
  obtain ⟨a0, K0, b0⟩ := op_3 H enc W n _ _ e0 w0.1
  have e1 : DataW.trod enc Tryd.prog W 0 (fun _ => true) true n 84 ((cs.drop 1).take (Tryd.prog.cellsOf 84)) = some y1 := hf 1 _ rfl
  rw [cells84] at e1
  have w1 := each_cons (t := 84) (d := y1.1) w0.2
  obtain ⟨a1, K1, b1⟩ := op_84 H enc W n _ _ e1 w1.1
  have e2 : DataW.trod enc Tryd.prog W 0 (fun _ => true) true n 85 ((cs.drop 2).take (Tryd.prog.cellsOf 85)) = some y2 := hf 2 _ rfl
  rw [cells85] at e2
  have w2 := each_cons (t := 85) (d := y2.1) w1.2
  obtain ⟨a2, K2, b2⟩ := op_85 H enc W n _ _ e2 w2.1
  refine ⟨⟨a0, a1, a2⟩, ?_, ⟨b0, b1, b2⟩⟩
  rw [cutl cs 2 1 hl'] at K2
  exact ⟨_, _, cut0 cs 1, K0, ⟨_, _, cut cs 1 1 2 rfl, K1, K2⟩⟩
theorem cells24 : Tryd.prog.cellsOf 24 = 1 := by kernel_rfl
theorem op_24 : Opens Tryd.prog 24 (Kd.slice 87 k87) (fun l : List S87 => l.length * 56 ≤ 140737488351232 ∧ ∀ x ∈ l, B87 x) := opens_slice (B := 56) Tryd.underlying24 (cells87.trans rfl) (by kernel_rfl) op_87
theorem cells107 : Tryd.prog.cellsOf 107 = 3 := by kernel_rfl
def B107 (x : S107) : Prop := (fun n : Int => (Lit.int .i64 n).wf = true) x.f0 ∧ (fun n : Int => (Lit.int .i64 n).wf = true) x.f1 ∧ (fun n : Int => (Lit.int .i64 n).wf = true) x.f2
theorem op_107 : Opens Tryd.prog 107 k107 B107 := by
  intro H enc W fuel cs x h hw
  obtain ⟨xs, n, _, rfl, hl, hxl, hf⟩ := DataW.trod_struct Tryd.underlying107 h
  have hl' : cs.length = 3 := hl.trans cells107
  have g0 : xs.length = 3 := hxl
  obtain ⟨y0, xs0, rfl, g1⟩ := len_succ g0
  obtain ⟨y1, xs1, rfl, g2⟩ := len_succ g1
  obtain ⟨y2, xs2, rfl, g3⟩ := len_succ g2
  obtain rfl := len_zero g3
  simp only [DataW.weights, Tryd.underlying107] at hw
  have e0 : DataW.trod enc Tryd.prog W 0 (fun _ => true) true n 3 ((cs.drop 0).take (Tryd.prog.cellsOf 3)) = some y0 := hf 0 _ rfl
  rw [cells3] at e0
  have w0 := each_cons (t := 3) (d := y0.1) hw
  obtain ⟨a0, K0, b0⟩ := op_3 H enc W n _ _ e0 w0.1
  have e1 : DataW.trod enc Tryd.prog W 0 (fun _ => true) true n 3 ((cs.drop 1).take (Tryd.prog.cellsOf 3)) = some y1 := hf 1 _ rfl
  rw [cells3] at e1
  have w1 := each_cons (t := 3) (d := y1.1) w0.2
  obtain ⟨a1, K1, b1⟩ := op_3 H enc W n _ _ e1 w1.1
  have e2 : DataW.trod enc Tryd.prog W 0 (fun _ => true) true n 3 ((cs.drop 2).take (Tryd.prog.cellsOf 3)) = some y2 := hf 2 _ rfl
  rw [cells3] at e2
  have w2 := each_cons (t := 3) (d := y2.1) w1.2
  obtain ⟨a2, K2, b2⟩ := op_3 H enc W n _ _ e2 w2.1
  refine ⟨⟨a0, a1, a2⟩, ?_, ⟨b0, b1, b2⟩⟩
  rw [cutl cs 2 1 hl'] at K2
  exact ⟨_, _, cut0 cs 1, K0, ⟨_, _, cut cs 1 1 2 rfl, K1, K2⟩⟩
theorem cells25 : Tryd.prog.cellsOf 25 = 1 := by kernel_rfl
theorem op_25 : Opens Tryd.prog 25 (Kd.slice 107 k107) (fun l : List S107 => l.length * 24 ≤ 140737488351232 ∧ ∀ x ∈ l, B107 x) := opens_slice (B := 24) Tryd.underlying25 (cells107.trans rfl) (by kernel_rfl) op_107
theorem cells26 : Tryd.prog.cellsOf 26 = 1 := by kernel_rfl
theorem op_26 : Opens Tryd.prog 26 (Kd.slice 3 (Kd.int .i64)) (fun l : List Int => l.length * 8 ≤ 140737488351232 ∧ ∀ x ∈ l, (fun n : Int => (Lit.int .i64 n).wf = true) x) := opens_slice (B := 8) Tryd.underlying26 (cells3.trans rfl) (by kernel_rfl) op_3
theorem cells28 : Tryd.prog.cellsOf 28 = 8 := by kernel_rfl
def B28 (x : S28) : Prop := (fun l : List Int => l.length * 8 ≤ 140737488351232 ∧ ∀ x ∈ l, (fun n : Int => (Lit.int .u64 n).wf = true) x) x.f0 ∧ (fun l : List S97 => l.length * 16 ≤ 140737488351232 ∧ ∀ x ∈ l, B97 x) x.f1 ∧ (fun l : List S87 => l.length * 56 ≤ 140737488351232 ∧ ∀ x ∈ l, B87 x) x.f2 ∧ (fun l : List S107 => l.length * 24 ≤ 140737488351232 ∧ ∀ x ∈ l, B107 x) x.f3 ∧ (fun l : List Int => l.length * 8 ≤ 140737488351232 ∧ ∀ x ∈ l, (fun n : Int => (Lit.int .i64 n).wf = true) x) x.f4 ∧ (fun n : Int => (Lit.int .i64 n).wf = true) x.f5 ∧ (fun n : Int => (Lit.int .i64 n).wf = true) x.f6 ∧ (fun n : Int => (Lit.int .i64 n).wf = true) x.f7
theorem op_28 : Opens Tryd.prog 28 k28 B28 := by
  intro H enc W fuel cs x h hw
  obtain ⟨xs, n, _, rfl, hl, hxl, hf⟩ := DataW.trod_struct Tryd.underlying28 h
  have hl' : cs.length = 8 := hl.trans cells28
  have g0 : xs.length = 8 := hxl
  obtain ⟨y0, xs0, rfl, g1⟩ := len_succ g0
  obtain ⟨y1, xs1, rfl, g2⟩ := len_succ g1
  obtain ⟨y2, xs2, rfl, g3⟩ := len_succ g2
  obtain ⟨y3, xs3, rfl, g4⟩ := len_succ g3
  obtain ⟨y4, xs4, rfl, g5⟩ := len_succ g4
  obtain ⟨y5, xs5, rfl, g6⟩ := len_succ g5
  obtain ⟨y6, xs6, rfl, g7⟩ := len_succ g6
  obtain ⟨y7, xs7, rfl, g8⟩ := len_succ g7
  obtain rfl := len_zero g8
  simp only [DataW.weights, Tryd.underlying28] at hw
  have e0 : DataW.trod enc Tryd.prog W 0 (fun _ => true) true n 22 ((cs.drop 0).take (Tryd.prog.cellsOf 22)) = some y0 := hf 0 _ rfl
  rw [cells22] at e0
  have w0 := each_cons (t := 22) (d := y0.1) hw
  obtain ⟨a0, K0, b0⟩ := op_22 H enc W n _ _ e0 w0.1
  have e1 : DataW.trod enc Tryd.prog W 0 (fun _ => true) true n 23 ((cs.drop 1).take (Tryd.prog.cellsOf 23)) = some y1 := hf 1 _ rfl
  rw [cells23] at e1
  have w1 := each_cons (t := 23) (d := y1.1) w0.2
  obtain ⟨a1, K1, b1⟩ := op_23 H enc W n _ _ e1 w1.1
  have e2 : DataW.trod enc Tryd.prog W 0 (fun _ => true) true n 24 ((cs.drop 2).take (Tryd.prog.cellsOf 24)) = some y2 := hf 2 _ rfl
  rw [cells24] at e2
  have w2 := each_cons (t := 24) (d := y2.1) w1.2
  obtain ⟨a2, K2, b2⟩ := op_24 H enc W n _ _ e2 w2.1
  have e3 : DataW.trod enc Tryd.prog W 0 (fun _ => true) true n 25 ((cs.drop 3).take (Tryd.prog.cellsOf 25)) = some y3 := hf 3 _ rfl
  rw [cells25] at e3
  have w3 := each_cons (t := 25) (d := y3.1) w2.2
  obtain ⟨a3, K3, b3⟩ := op_25 H enc W n _ _ e3 w3.1
  have e4 : DataW.trod enc Tryd.prog W 0 (fun _ => true) true n 26 ((cs.drop 4).take (Tryd.prog.cellsOf 26)) = some y4 := hf 4 _ rfl
  rw [cells26] at e4
  have w4 := each_cons (t := 26) (d := y4.1) w3.2
  obtain ⟨a4, K4, b4⟩ := op_26 H enc W n _ _ e4 w4.1
  have e5 : DataW.trod enc Tryd.prog W 0 (fun _ => true) true n 3 ((cs.drop 5).take (Tryd.prog.cellsOf 3)) = some y5 := hf 5 _ rfl
  rw [cells3] at e5
  have w5 := each_cons (t := 3) (d := y5.1) w4.2
  obtain ⟨a5, K5, b5⟩ := op_3 H enc W n _ _ e5 w5.1
  have e6 : DataW.trod enc Tryd.prog W 0 (fun _ => true) true n 3 ((cs.drop 6).take (Tryd.prog.cellsOf 3)) = some y6 := hf 6 _ rfl
  rw [cells3] at e6
  have w6 := each_cons (t := 3) (d := y6.1) w5.2
  obtain ⟨a6, K6, b6⟩ := op_3 H enc W n _ _ e6 w6.1
  have e7 : DataW.trod enc Tryd.prog W 0 (fun _ => true) true n 3 ((cs.drop 7).take (Tryd.prog.cellsOf 3)) = some y7 := hf 7 _ rfl
  rw [cells3] at e7
  have w7 := each_cons (t := 3) (d := y7.1) w6.2
  obtain ⟨a7, K7, b7⟩ := op_3 H enc W n _ _ e7 w7.1
  refine ⟨⟨a0, a1, a2, a3, a4, a5, a6, a7⟩, ?_, ⟨b0, b1, b2, b3, b4, b5, b6, b7⟩⟩
  rw [cutl cs 7 1 hl'] at K7
  exact ⟨_, _, cut0 cs 1, K0, ⟨_, _, cut cs 1 1 2 rfl, K1, ⟨_, _, cut cs 2 1 3 rfl, K2, ⟨_, _, cut cs 3 1 4 rfl, K3, ⟨_, _, cut cs 4 1 5 rfl, K4, ⟨_, _, cut cs 5 1 6 rfl, K5, ⟨_, _, cut cs 6 1 7 rfl, K6, K7⟩⟩⟩⟩⟩⟩⟩
theorem cells5 : Tryd.prog.cellsOf 5 = 1 := by kernel_rfl
theorem op_5 : Opens Tryd.prog 5 (Kd.int .u8) (fun n : Int => (Lit.int .u8 n).wf = true) := opens_int Tryd.underlying5
theorem cells38 : Tryd.prog.cellsOf 38 = 1 := by kernel_rfl
theorem op_38 : Opens Tryd.prog 38 (Kd.slice 5 (Kd.int .u8)) (fun l : List Int => l.length * 1 ≤ 140737488351232 ∧ ∀ x ∈ l, (fun n : Int => (Lit.int .u8 n).wf = true) x) := opens_slice (B := 1) Tryd.underlying38 (cells5.trans rfl) (by kernel_rfl) op_5
theorem cells29 : Tryd.prog.cellsOf 29 = 1 := by kernel_rfl
theorem op_29 : Opens Tryd.prog 29 (Kd.slice 38 (Kd.slice 5 (Kd.int .u8))) (fun l : List (List Int) => l.length * 24 ≤ 140737488351232 ∧ ∀ x ∈ l, (fun l : List Int => l.length * 1 ≤ 140737488351232 ∧ ∀ x ∈ l, (fun n : Int => (Lit.int .u8 n).wf = true) x) x) := opens_slice (B := 24) Tryd.underlying29 (cells38.trans rfl) (by kernel_rfl) op_38
theorem cells31 : Tryd.prog.cellsOf 31 = 2 := by kernel_rfl
def B31 (x : S31) : Prop := (fun l : List (List Int) => l.length * 24 ≤ 140737488351232 ∧ ∀ x ∈ l, (fun l : List Int => l.length * 1 ≤ 140737488351232 ∧ ∀ x ∈ l, (fun n : Int => (Lit.int .u8 n).wf = true) x) x) x.f0 ∧ (fun l : List Int => l.length * 8 ≤ 140737488351232 ∧ ∀ x ∈ l, (fun n : Int => (Lit.int .i64 n).wf = true) x) x.f1
theorem op_31 : Opens Tryd.prog 31 k31 B31 := by
  intro H enc W fuel cs x h hw
  obtain ⟨xs, n, _, rfl, hl, hxl, hf⟩ := DataW.trod_struct Tryd.underlying31 h
  have hl' : cs.length = 2 := hl.trans cells31
  have g0 : xs.length = 2 := hxl
  obtain ⟨y0, xs0, rfl, g1⟩ := len_succ g0
  obtain ⟨y1, xs1, rfl, g2⟩ := len_succ g1
  obtain rfl := len_zero g2
  simp only [DataW.weights, Tryd.underlying31] at hw
  have e0 : DataW.trod enc Tryd.prog W 0 (fun _ => true) true n 29 ((cs.drop 0).take (Tryd.prog.cellsOf 29)) = some y0 := hf 0 _ rfl
  rw [cells29] at e0
  have w0 := each_cons (t := 29) (d := y0.1) hw
  obtain ⟨a0, K0, b0⟩ := op_29 H enc W n _ _ e0 w0.1
  have e1 : DataW.trod enc Tryd.prog W 0 (fun _ => true) true n 26 ((cs.drop 1).take (Tryd.prog.cellsOf 26)) = some y1 := hf 1 _ rfl
  rw [cells26] at e1
  have w1 := each_cons (t := 26) (d := y1.1) w0.2
  obtain ⟨a1, K1, b1⟩ := op_26 H enc W n _ _ e1 w1.1
  refine ⟨⟨a0, a1⟩, ?_, ⟨b0, b1⟩⟩
  rw [cutl cs 1 1 hl'] at K1
  exact ⟨_, _, cut0 cs 1, K0, K1⟩
theorem cells67 : Tryd.prog.cellsOf 67 = 1 := by kernel_rfl
theorem op_67 : Opens Tryd.prog 67 (Kd.slice 31 k31) (fun l : List S31 => l.length * 48 ≤ 140737488351232 ∧ ∀ x ∈ l, B31 x) := opens_slice (B := 48) Tryd.underlying67 (cells31.trans rfl) (by kernel_rfl) op_31
end Go.Proofs.YtoliipbmcekciaaDoor.ODecodeScripts

