/- Decode: holds, Named, Opens walked. -/
import Derived.Test.YtoliipbmcekciaaDoorADd
namespace Go.Proofs.YtoliipbmcekciaaDoor.QDd
open Go.RowKit Go.Proofs.YtoliipbmcekciaaDoorW.PrintWords Go.Proofs.YtoliipbmcekciaaDoorW.PrintLast Go.Proofs.YtoliipbmcekciaaDoorW.PrintMore
open Go.Proofs.YtoliipbmcekciaaDoor.QDc (obj_below take_at yields_blk load_blk load_any store_blk blk_setCells setAll far_setCells below_setCells)
set_option linter.unusedVariables false
set_option linter.unusedSimpArgs false
def Rules3B (l : List S87) (n t r : Int) : Bool := properB l n r && (sendsB l n t r && receivesB l n t r)
def Hold3I (w : World) (b0 b1 b2 : Bool) (k : Nat) (wr : World) : Prop := Below w.heap.size w wr ∧ k ≤ 3 ∧ (0 < k → b0 = true) ∧ (1 < k → b1 = true) ∧ (2 < k → b2 = true)
set_option maxRecDepth 100000 in
set_option maxHeartbeats 2000000 in
theorem holds3_calls (g : Nat) (v0 v1 v3 v4 v5 v6 v7 : Value) (A : Option Addr) (c : Nat) (l : List S87) (n t r : Int) (w : World) (hE : w.heap[g]? = some (.cells #[.func (.func 44) #[.agg (NC v0 v1 v3 v4 v5 v6 v7 A c l n t r)] #[], .func (.func 45) #[.agg (NC v0 v1 v3 v4 v5 v6 v7 A c l n t r)] #[], .func (.func 46) #[.agg (NC v0 v1 v3 v4 v5 v6 v7 A c l n t r)] #[]] 36 (0, 0))) (hc : l.length ≤ c) (hs : Small l) (hr : Kd.C k87 w A l.length l) :
    Calls Tryd.prog 43 #[.slice (some ⟨g, 0, none⟩) 3 3] w fun e w' => e = .returned (.bool (Rules3B l n t r)) ∧ Below w.heap.size w w' := by
  have HC := Aside0.mk (And.intro hc (And.intro hs hr))
  have HE := Aside0.mk hE
  clear hc hs hr hE
  obtain ⟨b0, hb0⟩ : ∃ b, properB l n r = b := ⟨_, rfl⟩
  obtain ⟨b1, hb1⟩ : ∃ b, sendsB l n t r = b := ⟨_, rfl⟩
  obtain ⟨b2, hb2⟩ : ∃ b, receivesB l n t r = b := ⟨_, rfl⟩
  have HB := Aside0.mk (And.intro hb0 (And.intro hb1 (hb2)))
  unfold Rules3B
  rw [hb0, hb1, hb2]
  clear hb0 hb1 hb2
  have H0 : Aside0 (Hold3I w b0 b1 b2 0 w) := ⟨⟨Below.refl _ _, Nat.zero_le _, fun h => absurd h (by decide), fun h => absurd h (by decide), fun h => absurd h (by decide)⟩⟩
  go_enter Tryd.func43, Tryd.ntmps43
  go_wp2
  go_loopw [7] (fun i wr => ∃ k : Nat, i = .int .i64 (k : Int) ∧ Aside0 (Hold3I w b0 b1 b2 k wr)) (fun i _ => 3 - (intOf i).toNat)
  case atStart => exact ⟨0, rfl, H0⟩
  case round =>
    clear H0
    obtain ⟨k, rfl, hS⟩ := hrel
    have hk : k = 0 ∨ k = 1 ∨ k = 2 ∨ k = 3 := by have := hS.out.2.1; omega
    rcases hk with rfl | rfl | rfl | rfl
    · have ck : wr.cell? ⟨g, 0, none⟩ = some (.func (.func 44) #[.agg (NC v0 v1 v3 v4 v5 v6 v7 A c l n t r)] #[]) := by simp [World.cell?, obj_below hS.out.1 HE.out]
      cases b0 with
      | true =>
        go_wp2_with (first | (go_at_call 44; refine (proper_calls v0 v1 v3 v4 v5 v6 v7 A c l n t r _).mono ?_; rintro e w1 ⟨rfl, hB1⟩; rw [HB.out.1]; have HB1 := Aside0.mk hB1; clear hB1))
        go_roundw
        case rel => exact ⟨1, by go_num, ⟨hS.out.1.trans (HB1.out.mono hS.out.1.size), by decide, fun _ => rfl, fun h => absurd h (by decide), fun h => absurd h (by decide)⟩⟩
        case measure => simp [intOf]
      | false =>
        go_wp2_with (first | (go_at_call 44; refine (proper_calls v0 v1 v3 v4 v5 v6 v7 A c l n t r _).mono ?_; rintro e w1 ⟨rfl, hB1⟩; rw [HB.out.1]; have HB1 := Aside0.mk hB1; clear hB1))
        go_ret
        exact ⟨by rfl, hS.out.1.trans (HB1.out.mono hS.out.1.size)⟩
    · have ck : wr.cell? ⟨g, 1, none⟩ = some (.func (.func 45) #[.agg (NC v0 v1 v3 v4 v5 v6 v7 A c l n t r)] #[]) := by simp [World.cell?, obj_below hS.out.1 HE.out]
      cases b1 with
      | true =>
        go_wp2_with (first | (go_at_call 45; refine (sends_calls v0 v1 v3 v4 v5 v6 v7 A c l n t r _ HC.out.1 HC.out.2.1 (Kd.C_below HC.out.2.2 hS.out.1)).mono ?_; rintro e w1 ⟨rfl, hB1⟩; rw [HB.out.2.1]; have HB1 := Aside0.mk hB1; clear hB1))
        go_roundw
        case rel => exact ⟨2, by go_num, ⟨hS.out.1.trans (HB1.out.mono hS.out.1.size), by decide, fun _ => hS.out.2.2.1 (by decide), fun _ => rfl, fun h => absurd h (by decide)⟩⟩
        case measure => simp [intOf]
      | false =>
        go_wp2_with (first | (go_at_call 45; refine (sends_calls v0 v1 v3 v4 v5 v6 v7 A c l n t r _ HC.out.1 HC.out.2.1 (Kd.C_below HC.out.2.2 hS.out.1)).mono ?_; rintro e w1 ⟨rfl, hB1⟩; rw [HB.out.2.1]; have HB1 := Aside0.mk hB1; clear hB1))
        go_ret
        exact ⟨by rw [hS.out.2.2.1 (by decide)]; rfl, hS.out.1.trans (HB1.out.mono hS.out.1.size)⟩
    · have ck : wr.cell? ⟨g, 2, none⟩ = some (.func (.func 46) #[.agg (NC v0 v1 v3 v4 v5 v6 v7 A c l n t r)] #[]) := by simp [World.cell?, obj_below hS.out.1 HE.out]
      cases b2 with
      | true =>
        go_wp2_with (first | (go_at_call 46; refine (receives_calls v0 v1 v3 v4 v5 v6 v7 A c l n t r _ HC.out.1 HC.out.2.1 (Kd.C_below HC.out.2.2 hS.out.1)).mono ?_; rintro e w1 ⟨rfl, hB1⟩; rw [HB.out.2.2]; have HB1 := Aside0.mk hB1; clear hB1))
        go_roundw
        case rel => exact ⟨3, by go_num, ⟨hS.out.1.trans (HB1.out.mono hS.out.1.size), by decide, fun _ => hS.out.2.2.1 (by decide), fun _ => hS.out.2.2.2.1 (by decide), fun _ => rfl⟩⟩
        case measure => simp [intOf]
      | false =>
        go_wp2_with (first | (go_at_call 46; refine (receives_calls v0 v1 v3 v4 v5 v6 v7 A c l n t r _ HC.out.1 HC.out.2.1 (Kd.C_below HC.out.2.2 hS.out.1)).mono ?_; rintro e w1 ⟨rfl, hB1⟩; rw [HB.out.2.2]; have HB1 := Aside0.mk hB1; clear hB1))
        go_ret
        exact ⟨by rw [hS.out.2.2.1 (by decide), hS.out.2.2.2.1 (by decide)]; rfl, hS.out.1.trans (HB1.out.mono hS.out.1.size)⟩
    · go_wp2
      go_ret
      exact ⟨by rw [hS.out.2.2.1 (by decide), hS.out.2.2.2.1 (by decide), hS.out.2.2.2.2 (by decide)]; rfl, hS.out.1⟩
def Rules5B (l : List S87) (n t r : Int) : Bool := properB l n r && (sendsB l n t r && (receivesB l n t r && (opensLaneB l n t r && opensReceiverB l n t r)))
def Hold5I (w : World) (b0 b1 b2 b3 b4 : Bool) (k : Nat) (wr : World) : Prop := Below w.heap.size w wr ∧ k ≤ 5 ∧ (0 < k → b0 = true) ∧ (1 < k → b1 = true) ∧ (2 < k → b2 = true) ∧ (3 < k → b3 = true) ∧ (4 < k → b4 = true)
set_option maxRecDepth 100000 in
set_option maxHeartbeats 2000000 in
theorem holds5_calls (g : Nat) (v0 v1 v3 v4 v5 v6 v7 : Value) (A : Option Addr) (c : Nat) (l : List S87) (n t r : Int) (w : World) (hE : w.heap[g]? = some (.cells #[.func (.func 44) #[.agg (NC v0 v1 v3 v4 v5 v6 v7 A c l n t r)] #[], .func (.func 45) #[.agg (NC v0 v1 v3 v4 v5 v6 v7 A c l n t r)] #[], .func (.func 46) #[.agg (NC v0 v1 v3 v4 v5 v6 v7 A c l n t r)] #[], .func (.func 53) #[.agg (NC v0 v1 v3 v4 v5 v6 v7 A c l n t r)] #[], .func (.func 54) #[.agg (NC v0 v1 v3 v4 v5 v6 v7 A c l n t r)] #[]] 36 (0, 0))) (hc : l.length ≤ c) (hs : Small l) (hr : Kd.C k87 w A l.length l) :
    Calls Tryd.prog 43 #[.slice (some ⟨g, 0, none⟩) 5 5] w fun e w' => e = .returned (.bool (Rules5B l n t r)) ∧ Below w.heap.size w w' := by
  have HC := Aside0.mk (And.intro hc (And.intro hs hr))
  have HE := Aside0.mk hE
  clear hc hs hr hE
  obtain ⟨b0, hb0⟩ : ∃ b, properB l n r = b := ⟨_, rfl⟩
  obtain ⟨b1, hb1⟩ : ∃ b, sendsB l n t r = b := ⟨_, rfl⟩
  obtain ⟨b2, hb2⟩ : ∃ b, receivesB l n t r = b := ⟨_, rfl⟩
  obtain ⟨b3, hb3⟩ : ∃ b, opensLaneB l n t r = b := ⟨_, rfl⟩
  obtain ⟨b4, hb4⟩ : ∃ b, opensReceiverB l n t r = b := ⟨_, rfl⟩
  have HB := Aside0.mk (And.intro hb0 (And.intro hb1 (And.intro hb2 (And.intro hb3 (hb4)))))
  unfold Rules5B
  rw [hb0, hb1, hb2, hb3, hb4]
  clear hb0 hb1 hb2 hb3 hb4
  have H0 : Aside0 (Hold5I w b0 b1 b2 b3 b4 0 w) := ⟨⟨Below.refl _ _, Nat.zero_le _, fun h => absurd h (by decide), fun h => absurd h (by decide), fun h => absurd h (by decide), fun h => absurd h (by decide), fun h => absurd h (by decide)⟩⟩
  go_enter Tryd.func43, Tryd.ntmps43
  go_wp2
  go_loopw [7] (fun i wr => ∃ k : Nat, i = .int .i64 (k : Int) ∧ Aside0 (Hold5I w b0 b1 b2 b3 b4 k wr)) (fun i _ => 5 - (intOf i).toNat)
  case atStart => exact ⟨0, rfl, H0⟩
  case round =>
    clear H0
    obtain ⟨k, rfl, hS⟩ := hrel
    have hk : k = 0 ∨ k = 1 ∨ k = 2 ∨ k = 3 ∨ k = 4 ∨ k = 5 := by have := hS.out.2.1; omega
    rcases hk with rfl | rfl | rfl | rfl | rfl | rfl
    · have ck : wr.cell? ⟨g, 0, none⟩ = some (.func (.func 44) #[.agg (NC v0 v1 v3 v4 v5 v6 v7 A c l n t r)] #[]) := by simp [World.cell?, obj_below hS.out.1 HE.out]
      cases b0 with
      | true =>
        go_wp2_with (first | (go_at_call 44; refine (proper_calls v0 v1 v3 v4 v5 v6 v7 A c l n t r _).mono ?_; rintro e w1 ⟨rfl, hB1⟩; rw [HB.out.1]; have HB1 := Aside0.mk hB1; clear hB1))
        go_roundw
        case rel => exact ⟨1, by go_num, ⟨hS.out.1.trans (HB1.out.mono hS.out.1.size), by decide, fun _ => rfl, fun h => absurd h (by decide), fun h => absurd h (by decide), fun h => absurd h (by decide), fun h => absurd h (by decide)⟩⟩
        case measure => simp [intOf]
      | false =>
        go_wp2_with (first | (go_at_call 44; refine (proper_calls v0 v1 v3 v4 v5 v6 v7 A c l n t r _).mono ?_; rintro e w1 ⟨rfl, hB1⟩; rw [HB.out.1]; have HB1 := Aside0.mk hB1; clear hB1))
        go_ret
        exact ⟨by rfl, hS.out.1.trans (HB1.out.mono hS.out.1.size)⟩
    · have ck : wr.cell? ⟨g, 1, none⟩ = some (.func (.func 45) #[.agg (NC v0 v1 v3 v4 v5 v6 v7 A c l n t r)] #[]) := by simp [World.cell?, obj_below hS.out.1 HE.out]
      cases b1 with
      | true =>
        go_wp2_with (first | (go_at_call 45; refine (sends_calls v0 v1 v3 v4 v5 v6 v7 A c l n t r _ HC.out.1 HC.out.2.1 (Kd.C_below HC.out.2.2 hS.out.1)).mono ?_; rintro e w1 ⟨rfl, hB1⟩; rw [HB.out.2.1]; have HB1 := Aside0.mk hB1; clear hB1))
        go_roundw
        case rel => exact ⟨2, by go_num, ⟨hS.out.1.trans (HB1.out.mono hS.out.1.size), by decide, fun _ => hS.out.2.2.1 (by decide), fun _ => rfl, fun h => absurd h (by decide), fun h => absurd h (by decide), fun h => absurd h (by decide)⟩⟩
        case measure => simp [intOf]
      | false =>
        go_wp2_with (first | (go_at_call 45; refine (sends_calls v0 v1 v3 v4 v5 v6 v7 A c l n t r _ HC.out.1 HC.out.2.1 (Kd.C_below HC.out.2.2 hS.out.1)).mono ?_; rintro e w1 ⟨rfl, hB1⟩; rw [HB.out.2.1]; have HB1 := Aside0.mk hB1; clear hB1))
        go_ret
        exact ⟨by rw [hS.out.2.2.1 (by decide)]; rfl, hS.out.1.trans (HB1.out.mono hS.out.1.size)⟩
    · have ck : wr.cell? ⟨g, 2, none⟩ = some (.func (.func 46) #[.agg (NC v0 v1 v3 v4 v5 v6 v7 A c l n t r)] #[]) := by simp [World.cell?, obj_below hS.out.1 HE.out]
      cases b2 with
      | true =>
        go_wp2_with (first | (go_at_call 46; refine (receives_calls v0 v1 v3 v4 v5 v6 v7 A c l n t r _ HC.out.1 HC.out.2.1 (Kd.C_below HC.out.2.2 hS.out.1)).mono ?_; rintro e w1 ⟨rfl, hB1⟩; rw [HB.out.2.2.1]; have HB1 := Aside0.mk hB1; clear hB1))
        go_roundw
        case rel => exact ⟨3, by go_num, ⟨hS.out.1.trans (HB1.out.mono hS.out.1.size), by decide, fun _ => hS.out.2.2.1 (by decide), fun _ => hS.out.2.2.2.1 (by decide), fun _ => rfl, fun h => absurd h (by decide), fun h => absurd h (by decide)⟩⟩
        case measure => simp [intOf]
      | false =>
        go_wp2_with (first | (go_at_call 46; refine (receives_calls v0 v1 v3 v4 v5 v6 v7 A c l n t r _ HC.out.1 HC.out.2.1 (Kd.C_below HC.out.2.2 hS.out.1)).mono ?_; rintro e w1 ⟨rfl, hB1⟩; rw [HB.out.2.2.1]; have HB1 := Aside0.mk hB1; clear hB1))
        go_ret
        exact ⟨by rw [hS.out.2.2.1 (by decide), hS.out.2.2.2.1 (by decide)]; rfl, hS.out.1.trans (HB1.out.mono hS.out.1.size)⟩
    · have ck : wr.cell? ⟨g, 3, none⟩ = some (.func (.func 53) #[.agg (NC v0 v1 v3 v4 v5 v6 v7 A c l n t r)] #[]) := by simp [World.cell?, obj_below hS.out.1 HE.out]
      cases b3 with
      | true =>
        go_wp2_with (first | (go_at_call 53; refine (opensLane_calls v0 v1 v3 v4 v5 v6 v7 A c l n t r _ HC.out.1 HC.out.2.1 (Kd.C_below HC.out.2.2 hS.out.1)).mono ?_; rintro e w1 ⟨rfl, hB1⟩; rw [HB.out.2.2.2.1]; have HB1 := Aside0.mk hB1; clear hB1))
        go_roundw
        case rel => exact ⟨4, by go_num, ⟨hS.out.1.trans (HB1.out.mono hS.out.1.size), by decide, fun _ => hS.out.2.2.1 (by decide), fun _ => hS.out.2.2.2.1 (by decide), fun _ => hS.out.2.2.2.2.1 (by decide), fun _ => rfl, fun h => absurd h (by decide)⟩⟩
        case measure => simp [intOf]
      | false =>
        go_wp2_with (first | (go_at_call 53; refine (opensLane_calls v0 v1 v3 v4 v5 v6 v7 A c l n t r _ HC.out.1 HC.out.2.1 (Kd.C_below HC.out.2.2 hS.out.1)).mono ?_; rintro e w1 ⟨rfl, hB1⟩; rw [HB.out.2.2.2.1]; have HB1 := Aside0.mk hB1; clear hB1))
        go_ret
        exact ⟨by rw [hS.out.2.2.1 (by decide), hS.out.2.2.2.1 (by decide), hS.out.2.2.2.2.1 (by decide)]; rfl, hS.out.1.trans (HB1.out.mono hS.out.1.size)⟩
    · have ck : wr.cell? ⟨g, 4, none⟩ = some (.func (.func 54) #[.agg (NC v0 v1 v3 v4 v5 v6 v7 A c l n t r)] #[]) := by simp [World.cell?, obj_below hS.out.1 HE.out]
      cases b4 with
      | true =>
        go_wp2_with (first | (go_at_call 54; refine (opensReceiver_calls v0 v1 v3 v4 v5 v6 v7 A c l n t r _ HC.out.1 HC.out.2.1 (Kd.C_below HC.out.2.2 hS.out.1)).mono ?_; rintro e w1 ⟨rfl, hB1⟩; rw [HB.out.2.2.2.2]; have HB1 := Aside0.mk hB1; clear hB1))
        go_roundw
        case rel => exact ⟨5, by go_num, ⟨hS.out.1.trans (HB1.out.mono hS.out.1.size), by decide, fun _ => hS.out.2.2.1 (by decide), fun _ => hS.out.2.2.2.1 (by decide), fun _ => hS.out.2.2.2.2.1 (by decide), fun _ => hS.out.2.2.2.2.2.1 (by decide), fun _ => rfl⟩⟩
        case measure => simp [intOf]
      | false =>
        go_wp2_with (first | (go_at_call 54; refine (opensReceiver_calls v0 v1 v3 v4 v5 v6 v7 A c l n t r _ HC.out.1 HC.out.2.1 (Kd.C_below HC.out.2.2 hS.out.1)).mono ?_; rintro e w1 ⟨rfl, hB1⟩; rw [HB.out.2.2.2.2]; have HB1 := Aside0.mk hB1; clear hB1))
        go_ret
        exact ⟨by rw [hS.out.2.2.1 (by decide), hS.out.2.2.2.1 (by decide), hS.out.2.2.2.2.1 (by decide), hS.out.2.2.2.2.2.1 (by decide)]; rfl, hS.out.1.trans (HB1.out.mono hS.out.1.size)⟩
    · go_wp2
      go_ret
      exact ⟨by rw [hS.out.2.2.1 (by decide), hS.out.2.2.2.1 (by decide), hS.out.2.2.2.2.1 (by decide), hS.out.2.2.2.2.2.1 (by decide), hS.out.2.2.2.2.2.2 (by decide)]; rfl, hS.out.1⟩
end Go.Proofs.YtoliipbmcekciaaDoor.QDd
namespace Go.Proofs.YtoliipbmcekciaaDoor.QDd
open Go.RowKit Go.Proofs.YtoliipbmcekciaaDoorW.PrintWords Go.Proofs.YtoliipbmcekciaaDoorW.PrintLast Go.Proofs.YtoliipbmcekciaaDoorW.PrintMore
open Go.Proofs.YtoliipbmcekciaaDoor.QDc (obj_below take_at yields_blk load_blk load_any store_blk blk_setCells setAll far_setCells below_setCells)
set_option linter.unusedVariables false
set_option linter.unusedSimpArgs false
theorem setAll_get : ∀ (vs : List Value) (o : Nat) (cur : Array Value) (i : Nat), (setAll cur o vs)[i]? = if o ≤ i ∧ i < o + vs.length ∧ i < cur.size then vs[i - o]? else cur[i]?
  | [], o, cur, i => by
    rw [if_neg (fun hh => by have := hh.2.1; simp at this; omega)]
    rfl
  | v :: vs, o, cur, i => by
    show (setAll (cur.setIfInBounds o v) (o + 1) vs)[i]? = _
    rw [setAll_get vs (o + 1) (cur.setIfInBounds o v) i, Array.size_setIfInBounds]
    by_cases h : o = i
    · subst h
      rw [if_neg (by omega)]
      by_cases hs : o < cur.size
      · rw [if_pos ⟨Nat.le_refl _, by simp, hs⟩, Nat.sub_self, Array.getElem?_setIfInBounds]
        simp [hs]
      · rw [if_neg (fun hh => hs hh.2.2), Array.getElem?_setIfInBounds]
        simp [hs]
    · by_cases h2 : o ≤ i ∧ i < o + (v :: vs).length ∧ i < cur.size
      · rw [if_pos h2, if_pos ⟨by omega, by have := h2.2.1; simp at this; omega, h2.2.2⟩, show i - o = (i - (o + 1)) + 1 by omega, List.getElem?_cons_succ]
      · rw [if_neg h2, if_neg (fun hh => h2 ⟨by omega, by have := hh.2.1; simp; omega, hh.2.2⟩), Array.getElem?_setIfInBounds, if_neg h]
theorem setAll_all (cur cells : Array Value) (h : cur.size = cells.size) : setAll cur 0 cells.toList = cells := by
  apply Array.ext_getElem?
  intro i
  rw [setAll_get]
  by_cases hi : i < cells.size
  · rw [if_pos ⟨Nat.zero_le _, by simpa using hi, by omega⟩, Nat.sub_zero, Array.getElem?_toList]
  · rw [if_neg (fun hh => hi (by have := hh.2.1; simpa using this)), Array.getElem?_eq_none (by omega), Array.getElem?_eq_none (by omega)]
abbrev Z93 : Array Value := #[.slice none 0 0, .slice none 0 0, .slice none 0 0, .slice none 0 0, .slice none 0 0, .int .i64 0, .int .i64 0, .int .i64 0, .int .i64 0, .int .i64 0, .int .u8 0]
set_option maxRecDepth 100000 in
set_option maxHeartbeats 2000000 in
theorem Named_calls (v0 v1 v3 v4 v5 v6 v7 : Value) (A : Option Addr) (c : Nat) (l : List S87) (n t r : Int) (w : World) (ho : ([v0, v1, v3, v4, v5, v6, v7].all (·.oneCell')) = true) (hc : l.length ≤ c) (hs : Small l) (hr : Kd.C k87 w A l.length l) :
    Calls Tryd.prog 17 #[.agg #[v0, v1, .slice A l.length c, v3, v4, v5, v6, v7], .int .i64 n, .int .i64 t, .int .u8 r] w fun e w' => e = .returned (.bool (Rules3B l n t r)) ∧ Below w.heap.size w w' := by
  have h1 : (NC v0 v1 v3 v4 v5 v6 v7 A c l n t r).all (·.oneCell') = true := by
    simp only [List.all_cons, List.all_nil, Bool.and_true, Bool.and_eq_true] at ho
    obtain ⟨a, b, d, e, f, g, h⟩ := ho
    have q1 : ∀ A n c, (Value.slice A n c).oneCell' = true := fun _ _ _ => rfl
    have q2 : ∀ k x, (Value.int k x).oneCell' = true := fun _ _ => rfl
    simp [a, b, d, e, f, g, h, q1, q2]
  have HC := Aside0.mk (And.intro hc (And.intro hs (And.intro hr h1)))
  clear hc hs hr h1 ho
  go_enter Tryd.func17, Tryd.ntmps17
  go_upto_region 1 with fail
  have E0 : Aside0 ((w.alloc (.cells #[v0, v1, .slice A l.length c, v3, v4, v5, v6, v7] 28)).heap[w.heap.size]? = some (.cells #[v0, v1, .slice A l.length c, v3, v4, v5, v6, v7] 28 (0, 0))) := ⟨World.alloc_heap_new w _⟩
  have E1 : Aside0 (((w.alloc (.cells #[v0, v1, .slice A l.length c, v3, v4, v5, v6, v7] 28)).alloc (.cells #[.slice none 0 0, .slice none 0 0, .slice none 0 0, .slice none 0 0, .slice none 0 0, .int .i64 0, .int .i64 0, .int .i64 0, .int .i64 0, .int .i64 0, .int .u8 0] 93)).heap[w.heap.size + 1]? = some (.cells #[.slice none 0 0, .slice none 0 0, .slice none 0 0, .slice none 0 0, .slice none 0 0, .int .i64 0, .int .i64 0, .int .i64 0, .int .i64 0, .int .i64 0, .int .u8 0] 93 (0, 0))) := ⟨by have := World.alloc_heap_new (w.alloc (.cells #[v0, v1, .slice A l.length c, v3, v4, v5, v6, v7] 28)) (.cells #[.slice none 0 0, .slice none 0 0, .slice none 0 0, .slice none 0 0, .slice none 0 0, .int .i64 0, .int .i64 0, .int .i64 0, .int .i64 0, .int .i64 0, .int .u8 0] 93); rwa [World.size_alloc] at this⟩
  have B1 : Aside0 (Below w.heap.size w ((w.alloc (.cells #[v0, v1, .slice A l.length c, v3, v4, v5, v6, v7] 28)).alloc (.cells #[.slice none 0 0, .slice none 0 0, .slice none 0 0, .slice none 0 0, .slice none 0 0, .int .i64 0, .int .i64 0, .int .i64 0, .int .i64 0, .int .i64 0, .int .u8 0] 93))) := ⟨((Below.refl _ w).alloc (Nat.le_refl _) _).alloc (by simp) _⟩
  go_upto_region 2 with (first | ((with_reducible refine gate_ (.load 28 (.tmp 4)) rfl ?_); refine load_blk rfl 28 (.tmp 4) rfl w.heap.size _ 28 rfl _ E0.out Tryd.underlying28 rfl (by kernel_rfl) ?_) | ((with_reducible refine gate_store (t := 93) (p := 9) rfl ?_); (refine store_blk rfl 93 (.tmp 9) (.tmp 14) rfl (w.heap.size + 1) 0 (NC v0 v1 v3 v4 v5 v6 v7 A c l n t r) _ 93 rfl rfl E1.out (by simp) (by kernel_rfl) HC.out.2.2.2 ?_; intro w3 e3 hE3; rw [setAll_all Z93 (NC v0 v1 v3 v4 v5 v6 v7 A c l n t r) rfl] at hE3; have E3 := Aside0.mk hE3; have B3 : Aside0 (Below w.heap.size w w3) := ⟨e3 ▸ below_setCells (by omega) _ 0 _ B1.out⟩; clear e3 hE3)))
  clear E0 E1 B1
  go_wp2_with (first | ((with_reducible refine gate_ (.load 93 (.tmp 9)) rfl ?_); refine load_blk rfl 93 (.tmp 9) rfl (w.heap.size + 1) _ 93 rfl _ E3.out Tryd.underlying93 rfl (by kernel_rfl) ?_) | (go_at_call 43; refine (holds3_calls w3.heap.size v0 v1 v3 v4 v5 v6 v7 A c l n t r _ (World.alloc_heap_new w3 _) HC.out.1 HC.out.2.1 (Kd.C_below HC.out.2.2.1 (B3.out.alloc B3.out.size _))).mono ?_; rintro e w4 ⟨rfl, hB4⟩; have W4 := Aside0.mk hB4; clear hB4))
  go_ret
  exact ⟨rfl, (B3.out.alloc B3.out.size _).trans (W4.out.mono (B3.out.alloc B3.out.size _).size)⟩
set_option maxRecDepth 100000 in
set_option maxHeartbeats 4000000 in
theorem Opens_calls (v0 v1 v3 v4 v5 v6 v7 : Value) (A : Option Addr) (c : Nat) (l : List S87) (t kd a r hd py : Int) (w : World) (ha : 0 ≤ a ∧ a < 256) (ho : ([v0, v1, v3, v4, v5, v6, v7].all (·.oneCell')) = true) (hc : l.length ≤ c) (hs : Small l) (hr : Kd.C k87 w A l.length l) :
    Calls Tryd.prog 21 #[.agg #[v0, v1, .slice A l.length c, v3, v4, v5, v6, v7], .int .i64 t, .agg #[.int .u8 kd, .int .u8 a, .int .u8 r, .int .u32 hd, .int .u64 py]] w fun e w' => e = .returned (.bool (decide (kd = 1) && Rules5B l a t r)) ∧ Below w.heap.size w w' := by
  have h1 : (NC v0 v1 v3 v4 v5 v6 v7 A c l a t r).all (·.oneCell') = true := by
    simp only [List.all_cons, List.all_nil, Bool.and_true, Bool.and_eq_true] at ho
    obtain ⟨a, b, d, e, f, g, h⟩ := ho
    have q1 : ∀ A n c, (Value.slice A n c).oneCell' = true := fun _ _ _ => rfl
    have q2 : ∀ k x, (Value.int k x).oneCell' = true := fun _ _ => rfl
    simp [a, b, d, e, f, g, h, q1, q2]
  have HC := Aside0.mk (And.intro hc (And.intro hs (And.intro hr h1)))
  clear hc hs hr h1 ho
  obtain ⟨ha0, ha1⟩ := ha
  have key : ∀ q : Bool, (decide (kd = 1) && Rules5B l a t r) = q → Calls Tryd.prog 21 #[.agg #[v0, v1, .slice A l.length c, v3, v4, v5, v6, v7], .int .i64 t, .agg #[.int .u8 kd, .int .u8 a, .int .u8 r, .int .u32 hd, .int .u64 py]] w fun e w' => e = .returned (.bool q) ∧ Below w.heap.size w w' := by
    intro q hq
    have HQ := Aside0.mk hq
    clear hq
    go_enter Tryd.func21, Tryd.ntmps21
    go_upto_region 1 with fail
    have E0 : Aside0 (((w.alloc (.cells #[v0, v1, .slice A l.length c, v3, v4, v5, v6, v7] 28)).alloc (.cells #[.int .u8 kd, .int .u8 a, .int .u8 r, .int .u32 hd, .int .u64 py] 55)).heap[w.heap.size]? = some (.cells #[v0, v1, .slice A l.length c, v3, v4, v5, v6, v7] 28 (0, 0))) := ⟨(Below.heap_alloc _ _ _ (by simp)).trans (World.alloc_heap_new w _)⟩
    have E2 : Aside0 (((w.alloc (.cells #[v0, v1, .slice A l.length c, v3, v4, v5, v6, v7] 28)).alloc (.cells #[.int .u8 kd, .int .u8 a, .int .u8 r, .int .u32 hd, .int .u64 py] 55)).heap[w.heap.size + 1]? = some (.cells #[.int .u8 kd, .int .u8 a, .int .u8 r, .int .u32 hd, .int .u64 py] 55 (0, 0))) := ⟨by have := World.alloc_heap_new (w.alloc (.cells #[v0, v1, .slice A l.length c, v3, v4, v5, v6, v7] 28)) (.cells #[.int .u8 kd, .int .u8 a, .int .u8 r, .int .u32 hd, .int .u64 py] 55); rwa [World.size_alloc] at this⟩
    have hsz : ((w.alloc (.cells #[v0, v1, .slice A l.length c, v3, v4, v5, v6, v7] 28)).alloc (.cells #[.int .u8 kd, .int .u8 a, .int .u8 r, .int .u32 hd, .int .u64 py] 55)).heap.size = w.heap.size + 2 := by rw [World.size_alloc, World.size_alloc]
    have HSZ := Aside0.mk hsz
    have B0 : Aside0 (Below w.heap.size w ((w.alloc (.cells #[v0, v1, .slice A l.length c, v3, v4, v5, v6, v7] 28)).alloc (.cells #[.int .u8 kd, .int .u8 a, .int .u8 r, .int .u32 hd, .int .u64 py] 55))) := ⟨((Below.refl _ w).alloc (Nat.le_refl _) _).alloc (by simp) _⟩
    clear hsz
    generalize ((w.alloc (.cells #[v0, v1, .slice A l.length c, v3, v4, v5, v6, v7] 28)).alloc (.cells #[.int .u8 kd, .int .u8 a, .int .u8 r, .int .u32 hd, .int .u64 py] 55)) = w0 at E0 E2 B0 HSZ ⊢
    have E1 : Aside0 ((w0.alloc (.cells Z93 93)).heap[w0.heap.size]? = some (.cells Z93 93 (0, 0))) := ⟨World.alloc_heap_new w0 _⟩
    have B1 : Aside0 (Below w.heap.size w (w0.alloc (.cells Z93 93))) := ⟨B0.out.alloc B0.out.size _⟩
    have x1 : w0.cell? ⟨w.heap.size + 1, 1, none⟩ = some (.int .u8 a) := by simp [World.cell?, E2.out]
    have x2 : w0.cell? ⟨w.heap.size + 1, 2, none⟩ = some (.int .u8 r) := by simp [World.cell?, E2.out]
    go_upto_region 2 with (first | ((with_reducible refine gate_ (.load 28 (.tmp 3)) rfl ?_); refine load_blk rfl 28 (.tmp 3) rfl w.heap.size _ 28 rfl _ E0.out Tryd.underlying28 rfl (by kernel_rfl) ?_) | ((with_reducible refine gate_store (t := 93) (p := 7) rfl ?_); refine store_blk rfl 93 (.tmp 7) (.tmp 15) rfl w0.heap.size 0 (NC v0 v1 v3 v4 v5 v6 v7 A c l a t r) _ 93 rfl rfl E1.out (by simp) (by kernel_rfl) HC.out.2.2.2 ?_; intro w3 e3 hE3; rw [setAll_all Z93 (NC v0 v1 v3 v4 v5 v6 v7 A c l a t r) rfl] at hE3; have E3 := Aside0.mk hE3; have B3 : Aside0 (Below w.heap.size w w3) := ⟨e3 ▸ below_setCells B0.out.size _ 0 _ B1.out⟩; have F3 : Aside0 (w3.heap[w.heap.size + 1]? = some (.cells #[.int .u8 kd, .int .u8 a, .int .u8 r, .int .u32 hd, .int .u64 py] 55 (0, 0))) := ⟨by rw [e3, far_setCells (by have := HSZ.out; omega)]; exact (Below.heap_alloc _ _ _ (by have := HSZ.out; omega)).trans E2.out⟩; clear e3 hE3))
    clear E0 E1 E2 B0 B1 x1 x2 HSZ
    have k0 : w3.cell? ⟨w.heap.size + 1, 0, none⟩ = some (.int .u8 kd) := by simp [World.cell?, F3.out]
    by_cases hk : kd = 1
    · have d0 : (kd == 1) = true := by simpa using hk
      have d1 : decide (kd = 1) = true := decide_eq_true hk
      have HK := Aside0.mk hk
      clear hk
      go_wp2_with (first | ((with_reducible refine gate_ (.load 93 (.tmp 7)) rfl ?_); (try (refine gate_guard (by rfl) ?_; dsimp only)); refine load_blk rfl 93 (.tmp 7) rfl w0.heap.size _ 93 rfl _ E3.out Tryd.underlying93 rfl (by kernel_rfl) ?_) | (go_at_call 43; refine (holds5_calls w3.heap.size v0 v1 v3 v4 v5 v6 v7 A c l a t r _ (World.alloc_heap_new w3 _) HC.out.1 HC.out.2.1 (Kd.C_below HC.out.2.2.1 (B3.out.alloc B3.out.size _))).mono ?_; rintro e w4 ⟨rfl, hB4⟩; have W4 := Aside0.mk hB4; clear hB4))
      go_ret
      exact ⟨by rw [← HQ.out]; simp [*], (B3.out.alloc B3.out.size _).trans (W4.out.mono (B3.out.alloc B3.out.size _).size)⟩
    · have d0 : (kd == 1) = false := by simpa using hk
      have d1 : decide (kd = 1) = false := decide_eq_false hk
      go_wp2_with fail
      go_ret
      exact ⟨by rw [← HQ.out]; simp [*], B3.out⟩
  exact key _ rfl
end Go.Proofs.YtoliipbmcekciaaDoor.QDd
