/- Decode: alive. -/
import Derived.Test.YtoliipbmcekciaaDoorHDc
import Derived.Test.YtoliipbmcekciaaDoorBytDc
namespace Go.Proofs.YtoliipbmcekciaaDoor.QDc
open Go.RowKit Go.Shelf Go.Proofs.YtoliipbmcekciaaDoorW.PrintWords Go.Proofs.YtoliipbmcekciaaDoorW.PrintLast Go.Proofs.YtoliipbmcekciaaDoorW.PrintMore
set_option linter.unusedVariables false
set_option linter.unusedSimpArgs false
theorem bytes_poll : rampartref03_Bytes.f 30 9 0 0 0 0 = some ([9, 0, 0, 0, 0, 0, 0, 0, 0, 0, 0, 0, 0, 0, 0, 0], 0) := by decide +kernel
theorem items_alive : items [[9, 0, 0, 0, 0, 0, 0, 0, 0, 0, 0, 0, 0, 0, 0, 0, 1, 2]] 0 4 = [⟨⟨9, 0, 0, 0, 0⟩, true⟩, ⟨⟨0, 0, 0, 0, 0⟩, false⟩] := by kernel_rfl
theorem read_one {W : World} {l : List Int} {A : Option Addr} {c : Nat} (hle : l.length ≤ c) (h : Kd.C (Kd.int .u8) W A l.length l) : Kd.C (Kd.slice 5 (Kd.int .u8)) (W.alloc (.cells #[.slice A l.length c] 38)) (some ⟨W.heap.size, 0, none⟩) 1 [l] := by
  refine ⟨rfl, by omega, fun _ => ⟨_, rfl, fun j p hj => ?_⟩⟩
  match j, hj with
  | 0, hj =>
    obtain rfl : l = p := by simpa using hj
    refine ⟨[.slice A l.length c], rfl, ⟨A, c, rfl, hle, Kd.C_below h ((Below.refl _ W).alloc (Nat.le_refl _) _)⟩, fun i u hu => ?_⟩
    exact cells_new W #[.slice A l.length c] 38 _ u (by rw [Nat.zero_mul, Nat.zero_add]; exact hu)
  | j + 1, hj => simp at hj
set_option maxRecDepth 100000 in
set_option maxHeartbeats 2000000 in
theorem alive_calls (w : World) (hg : Glob w) : Calls Tryd.prog 14 #[] w fun e w' => e = .returned (.bool true) ∧ Below w.heap.size w w' := by
  have HG := Aside0.mk hg
  clear hg
  go_enter Tryd.func14, Tryd.ntmps14
  go_upto_region 2 with (first | (go_at_call 35; refine (rampartref03_Bytes.calls 30 _ _ _ _ _ _ _ _ bytes_poll).mono ?_; rintro e w1 ⟨v0, rfl, hR0, hB0⟩; obtain ⟨A1, c1, rfl, hc1, hC1⟩ := Kd.R_reads hR0; have H1 := Aside0.mk (And.intro hR0 (And.intro hc1 hB0)); clear hR0 hC1 hc1 hB0))
  have HO : Aside0 ((w1.alloc (.cells #[.int .u8 1, .int .u8 2] 5)).ownsRow w.heap.size 5 1 (.slice A1 16 c1) ([9, 0, 0, 0, 0, 0, 0, 0, 0, 0, 0, 0, 0, 0, 0, 0] : List Int).length (nums .u8 [9, 0, 0, 0, 0, 0, 0, 0, 0, 0, 0, 0, 0, 0, 0, 0])) := ⟨(Kd.own_of_R H1.out.1).alloc _⟩
  have HI : Aside0 (ReadsInt (w1.alloc (.cells #[.int .u8 1, .int .u8 2] 5)) .u8 (some ⟨w1.heap.size, 0, none⟩) 2 [1, 2]) := ⟨by
    refine ⟨rfl, by omega, fun _ => ⟨_, rfl, fun j hj => ?_⟩⟩
    refine cells_new w1 #[.int .u8 1, .int .u8 2] 5 j _ ?_
    match j, hj with
    | 0, _ => rfl
    | 1, _ => rfl⟩
  have HB : Aside0 (Below w.heap.size w (w1.alloc (.cells #[.int .u8 1, .int .u8 2] 5))) := ⟨H1.out.2.2.alloc H1.out.2.2.size _⟩
  go_upto_region 3 with (first
    | ((with_reducible refine gate_builtin (b := .append) rfl ?_); at_builtin; refine print_append_row (w0 := w) w.heap.size rfl (.tmp 10) (.tmp 11) 38 5 .u8 1 rfl Tryd.underlying38 info5 (by decide) (.slice A1 16 c1) [9, 0, 0, 0, 0, 0, 0, 0, 0, 0, 0, 0, 0, 0, 0, 0] [1, 2] (some ⟨w1.heap.size, 0, none⟩) 2 2 rfl rfl HO.out HI.out HB.out HB.out.size (by simp) ?_; intro v1 w2 hown hB2 hg2 hat; obtain ⟨A2, c2, rfl, hc2, hrd⟩ := own_reads_of_le (d := 0) hown; have HX := Aside0.mk (And.intro hB2 (And.intro hown hc2)); clear hown hB2 hg2 hat hc2 hrd))
  have hC2 : Kd.C (Kd.int .u8) w2 A2 18 [9, 0, 0, 0, 0, 0, 0, 0, 0, 0, 0, 0, 0, 0, 0, 0, 1, 2] := by
    obtain ⟨A', c', e, hc', hrd⟩ := own_reads_of_le (d := 0) HX.out.2.1
    have e' : A2 = A' := by injection e
    subst e'
    exact Kd.C_of_reads hrd
  have hone := read_one (l := [9, 0, 0, 0, 0, 0, 0, 0, 0, 0, 0, 0, 0, 0, 0, 0, 1, 2]) HX.out.2.2 hC2
  refine (Tick_calls _ _ _ _ _ _ _ _ 0 4 _ 1 [[9, 0, 0, 0, 0, 0, 0, 0, 0, 0, 0, 0, 0, 0, 0, 0, 1, 2]] _ (by simp) hone (by simp) (HG.out.below (HX.out.1.alloc HX.out.1.size _))).mono ?_
  rw [items_alive]
  rintro e w3 ⟨A3, c3, rfl, hc3, hC3, hB3⟩
  have HB3 : Aside0 (Below w.heap.size w w3) := ⟨(HX.out.1.alloc HX.out.1.size _).trans (hB3.mono (by have := HX.out.1.size; simp; omega))⟩
  clear hB3 hC2 hone
  obtain ⟨ad, rfl, hq⟩ := hC3.2.2 (by simp)
  clear hC3
  obtain ⟨q0, _, hk0, hc0⟩ := hq 0 _ rfl
  obtain ⟨q1, _, hk1, hc1'⟩ := hq 1 _ rfl
  obtain rfl := k75_open hk0
  obtain rfl := k75_open hk1
  have x0 := hc0 0 _ rfl
  have x5 := hc0 5 _ rfl
  have y0 := hc1' 0 _ rfl
  have y1 := hc1' 1 _ rfl
  have y2 := hc1' 2 _ rfl
  have y3 := hc1' 3 _ rfl
  have y4 := hc1' 4 _ rfl
  have y5 := hc1' 5 _ rfl
  clear hk0 hk1 hc0 hc1' hq
  simp only [show k75.sz = 6 from rfl, Nat.reduceMul, Nat.reduceAdd] at x0 x5 y0 y1 y2 y3 y4 y5
  change w3.cell? ⟨ad.block, ad.off + 5, none⟩ = _ at x5
  change w3.cell? ad = _ at x0
  change w3.cell? ⟨ad.block, ad.off + 6, none⟩ = _ at y0
  change w3.cell? ⟨ad.block, ad.off + 7, none⟩ = _ at y1
  change w3.cell? ⟨ad.block, ad.off + 8, none⟩ = _ at y2
  change w3.cell? ⟨ad.block, ad.off + 9, none⟩ = _ at y3
  change w3.cell? ⟨ad.block, ad.off + 10, none⟩ = _ at y4
  change w3.cell? ⟨ad.block, ad.off + 11, none⟩ = _ at y5
  go_wp2
  go_ret
  exact ⟨rfl, HB3.out⟩
end Go.Proofs.YtoliipbmcekciaaDoor.QDc
