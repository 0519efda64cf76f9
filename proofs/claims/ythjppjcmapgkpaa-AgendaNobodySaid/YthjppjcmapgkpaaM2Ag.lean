/- Lane: IAg, JAg, KAg joined. -/
import Derived.Test.YthjppjcmapgkpaaGAg
/- Agenda: container/heap's Fix. -/
namespace Go.Proofs.Ythjppjcmapgkpaa.QAg
open Go.RowKit Go.Proofs.YthjppjcmapgkpaaW.PrintWords Go.Proofs.YthjppjcmapgkpaaW.PrintLast Go.Proofs.YthjppjcmapgkpaaW.PrintMore
set_option linter.unusedVariables false
set_option linter.unusedSimpArgs false
/-- Down, and where the entry stood, up. -/
def FixR (n : Nat) (e : Nat → En) (i : Nat) (e2 : Nat → En) : Prop := ∃ (e1 : Nat → En) (f : Nat), DownR LE n e i e1 f ∧ (f = i → UpR LE e1 i e2) ∧ (f ≠ i → e2 = e1)
theorem FixR.same {n : Nat} {e e2 : Nat → En} {i : Nat} (h : FixR n e i e2) (hi : i < n) : Same n e e2 := by
  obtain ⟨e1, f, h1, h2, h3⟩ := h
  have hs := h1.same hi
  by_cases hf : f = i
  · exact hs.trans ((h2 hf).same hi)
  · rw [h3 hf]; exact hs
/-- down's answer written out. -/
theorem down_two {w : World} {b mb B : Nat} {m v : Value} {nx : Int} {n N : Nat} {e : Nat → En} (h : Hq w b B fLess m v nx n e) (hN : N ≤ n) {i0 : Nat} (hi : i0 < N) : Calls Try.prog 48 #[ifc b, .int .i64 (i0 : Int), .int .i64 (N : Int)] w fun r w' =>
    (r = .returned (.bool false) ∧ DownR LE N e i0 e i0 ∧ Hq w' b B fLess m v nx n e ∧ Ag b mb B w w') ∨ (r = .returned (.bool true) ∧ ∃ (e' : Nat → En) (f : Nat), i0 < f ∧ DownR LE N e i0 e' f ∧ Hq w' b B fLess m v nx n e' ∧ Ag b mb B w w') := by
  refine (down_calls (mb := mb) h hN hi).mono ?_
  rintro r w' ⟨e', f, rfl, hd, hq, hg⟩
  rcases Nat.lt_or_ge i0 f with hf | hf
  · exact Or.inr ⟨by rw [decide_eq_true hf], e', f, hf, hd, hq, hg⟩
  · have hfe : f = i0 := by have := hd.le.1; omega
    have he := hd.le.2 hfe
    subst hfe
    subst he
    exact Or.inl ⟨by rw [decide_eq_false (by omega)], hd, hq, hg⟩
set_option maxRecDepth 100000 in
set_option maxHeartbeats 2000000 in
theorem fix_calls {w : World} {b mb B : Nat} {m v : Value} {nx : Int} {n : Nat} {e : Nat → En} (h : Hq w b B fLess m v nx n e) {i : Nat} (hi : i < n) : Calls Try.prog 41 #[ifc b, .int .i64 (i : Int)] w fun r w' => r = .returned (.tuple #[]) ∧ ∃ e2, FixR n e i e2 ∧ Hq w' b B fLess m v nx n e2 ∧ Ag b mb B w w' := by
  have HS := Aside0.mk h
  have HI := Aside0.mk hi
  clear h hi
  go_enter Try.func41, Try.ntmps41
  go_wp2_with (first
    | (go_at_call 34; refine (Len_calls HS.out.hp).mono ?_; rintro r w2 ⟨rfl, rfl⟩)
    | (go_at_call 48; refine (down_two (mb := mb) HS.out (Nat.le_refl _) HI.out).mono ?_; rintro r w3 (⟨rfl, hd, hq3, hg3⟩ | ⟨rfl, e1, f, hf, hd, hq3, hg3⟩) <;> (have HD := Aside0.mk (And.intro hd (And.intro hq3 hg3)); clear hd hq3 hg3))
    | (go_at_call 46; refine (up_calls (mb := mb) HD.out.2.1 HI.out).mono ?_; rintro r w4 ⟨rfl, e2, hu, hq4, hg4⟩; have HU := Aside0.mk (And.intro hu (And.intro hq4 (HD.out.2.2.trans hg4))); clear hu hq4 hg4))
  all_goals first
    | exact bodyPost_end (results_none rfl _ _ _) rfl ⟨rfl, e2, ⟨e, i, HD.out.1, fun _ => HU.out.1, fun hc => absurd rfl hc⟩, HU.out.2.1, HU.out.2.2⟩
    | exact bodyPost_end (results_none rfl _ _ _) rfl ⟨rfl, e1, ⟨e1, f, HD.out.1, fun hc => absurd hc (Nat.ne_of_gt hf), fun _ => rfl⟩, HD.out.2.1, HD.out.2.2⟩
end Go.Proofs.Ythjppjcmapgkpaa.QAg
/- Agenda: the row's Pop; container/heap's Remove. -/
namespace Go.Proofs.Ythjppjcmapgkpaa.QAg
open Go.RowKit Go.Proofs.YthjppjcmapgkpaaW.PrintWords Go.Proofs.YthjppjcmapgkpaaW.PrintLast Go.Proofs.YthjppjcmapgkpaaW.PrintMore
set_option linter.unusedVariables false
set_option linter.unusedSimpArgs false
theorem Ag.setB {b mb B o : Nat} {w0 w : World} {cur : Array Value} {t : TypeId} (h : Ag b mb B w0 w) (hg : w.heap[b]? = some (.cells cur t (0, 0))) (u : Value) : Ag b mb B w0 (w.setCell ⟨b, o, none⟩ u) := by
  refine h.trans ⟨rfl, rfl, rfl, by simp [World.setCell], fun i hi => ?_, fun i c t' hi => ?_⟩
  · by_cases hig : i = b
    · exact Or.inr (Or.inl hig)
    · exact Or.inl (Below.heap_setCell _ _ _ _ hig)
  · by_cases hig : i = b
    · subst hig
      rw [hg] at hi
      cases hi
      exact ⟨_, blk_set hg o u⟩
    · exact ⟨c, (Below.heap_setCell _ _ _ _ hig).trans hi⟩
theorem fE_take (e : Nat → En) (n : Nat) {j : Nat} {u : Value} (h : (fE e n)[j]? = some u) : (fE e (n + 1))[j]? = some u := by
  have hj : j < n := by have := (List.getElem?_eq_some_iff.1 h).1; rw [fE_len, Nat.mul_one] at this; exact this
  rw [fE_get e hj] at h
  rw [fE_get e (by omega)]
  exact h
/-- The last place is struck. -/
theorem Hp.pop {w : World} {b B : Nat} {f m : Value} {nx : Int} {n g o c : Nat} {e : Nat → En} (h : Hp w b B f m nx (.slice (some ⟨g, o, none⟩) (n + 1) c) (n + 1) e) :
    Hp ((w.setCell ⟨g, o + n, none⟩ (.pointer none)).setCell ⟨b, 0, none⟩ (.slice (some ⟨g, o, none⟩) n c)) b B f m nx (.slice (some ⟨g, o, none⟩) n c) n e := by
  obtain ⟨h1, h2, h3, _⟩ := h.far_row rfl (by omega)
  obtain ⟨g', o', cap, cur, hv, q1, q2, q3, q4, q5⟩ := h.row.lies (by omega)
  injection hv with e1 e2 e3
  injection e1 with e1
  injection e1 with e4 e5
  subst e3 e4 e5
  have hb := blk_set q2 (o + n) (.pointer none)
  have hbb := blk_set ((Below.heap_setCell w ⟨g, o + n, none⟩ (.pointer none) _ h2).trans h.blk) 0 (.slice (some ⟨g, o, none⟩) n c)
  have hbe : ∀ k, k < n → (e k).g ≠ b := fun k hk hc => by
    have h4 := h.ent k (by omega)
    rw [hc, h.blk] at h4
    injection h4 with h4
    injection h4 with _ h4
    exact absurd h4 (by decide)
  refine ⟨hbb, ?_, fun k hk => ?_, fun i j hi hj => h.inj i j (by omega) (by omega), h.lt, ?_, by have := h.n6; omega⟩
  · refine ⟨fE_len _ _, Or.inr ⟨g, o, c, _, rfl, by omega, q1, (Below.heap_setCell _ _ _ _ (Ne.symm h2)).trans hb, by omega, by rw [Array.size_setIfInBounds]; exact q4, fun j u hj => ?_⟩⟩
    have hjn : j < n := by have := (List.getElem?_eq_some_iff.1 hj).1; rw [fE_len, Nat.mul_one] at this; exact this
    rw [Array.getElem?_setIfInBounds_ne (by omega)]
    exact q5 j u (fE_take e n hj)
  · exact (Below.heap_setCell _ _ _ _ (hbe k hk)).trans ((Below.heap_setCell _ _ _ _ (h3 k (by omega))).trans (h.ent k (by omega)))
  · have := h.sz; simpa [World.setCell] using this
set_option maxRecDepth 100000 in
set_option maxHeartbeats 2000000 in
theorem rowPop_calls {w : World} {b mb B : Nat} {f m v : Value} {nx : Int} {n : Nat} {e : Nat → En} (h : Hq w b B f m v nx (n + 1) e) : Calls Try.prog 67 #[.pointer (some ⟨b, 0, none⟩)] w fun r w' => r = .returned (.iface 73 (.pointer (some ⟨(e n).g, 0, none⟩))) ∧ ∃ v', Hq w' b B f m v' nx n e ∧ Ag b mb B w w' ∧ w'.heap[(e n).g]? = some (.cells (aE (e n) n) 75 (0, 0)) := by
  obtain ⟨A, c, rfl, hc⟩ := h.hp.form
  obtain ⟨gT, oT, rfl, p0⟩ := h.hp.place (Nat.lt_succ_self n)
  have HA := Aside0.mk h
  have c0 := h.hp.cells.1
  obtain ⟨y1, y2, y3, cur, y4⟩ := h.hp.far_row rfl (Nat.succ_pos n)
  have HY := Aside0.mk (And.intro y1 (And.intro y2 y4))
  have f0 : w.frozen? ⟨gT, oT + n, none⟩ = false := by simp [World.frozen?, y4]
  have hn6 := h.hp.n6
  have q1 : IntKind.i64.wrap (((n : Nat) : Int) + 1 - 1) = (n : Int) := by rw [IntKind.wrap_i64]; omega
  have q2 : IntKind.i64.wrap ((((n + 1 : Nat)) : Int) - 1) = (n : Int) := by rw [IntKind.wrap_i64]; omega
  have q3 : wrap64 (((n : Nat) : Int) + 1 - 1) = (n : Int) := by unfold wrap64; omega
  have b1 : (0 : Int) ≤ (n : Int) := Int.natCast_nonneg n
  have b2 : (n : Int) < (n : Int) + 1 := by omega
  have ht : ((n : Int)).toNat = n := Int.toNat_natCast n
  have b3 : n ≤ c := by omega
  have b4 : wrap64 (n : Int) = (n : Int) := by unfold wrap64; omega
  clear h y1 y2 y3 y4 hn6 hc
  go_enter Try.func67, Try.ntmps67
  go_upto_region 4 with fail
  clear p0 c0 f0
  have HEN : Aside0 (((w.setCell ⟨gT, oT + n, none⟩ (.pointer none)).setCell ⟨b, 0, none⟩ (.slice (some ⟨gT, oT, none⟩) n c)).heap[(e n).g]? = some (.cells (aE (e n) n) 75 (0, 0))) := ⟨(Below.heap_setCell _ _ _ _ (fun hc => by
      have h4 := HA.out.hp.ent n (Nat.lt_succ_self n)
      rw [hc, HA.out.hp.blk] at h4
      injection h4 with h4
      injection h4 with _ h4
      exact absurd h4 (by decide))).trans ((Below.heap_setCell _ _ _ _ ((HA.out.hp.far_row rfl (Nat.succ_pos n)).2.2.1 n (Nat.lt_succ_self n))).trans (HA.out.hp.ent n (Nat.lt_succ_self n)))⟩
  have HAG1 : Aside0 (Ag b mb B w (w.setCell ⟨gT, oT + n, none⟩ (.pointer none))) := ⟨(Ag.of_below (Below.refl _ _)).set HY.out.2.2 HY.out.1 (Or.inl rfl) _⟩
  have HP := Aside0.mk HA.out.hp.pop
  have hblk : (w.setCell ⟨gT, oT + n, none⟩ (.pointer none)).heap[b]? = some (.cells (aA (.slice (some ⟨gT, oT, none⟩) (n + 1) c) f m nx) 63 (0, 0)) := (Below.heap_setCell _ _ _ _ HY.out.2.1).trans HA.out.hp.blk
  have HAG2 : Aside0 (Ag b mb B w ((w.setCell ⟨gT, oT + n, none⟩ (.pointer none)).setCell ⟨b, 0, none⟩ (.slice (some ⟨gT, oT, none⟩) n c))) := ⟨HAG1.out.setB hblk _⟩
  have c0 : (w.setCell ⟨gT, oT + n, none⟩ (.pointer none)).cell? ⟨b, 0, none⟩ = some (.slice (some ⟨gT, oT, none⟩) (n + 1) c) := by simp only [World.cell?, hblk]; rfl
  have f0 : (w.setCell ⟨gT, oT + n, none⟩ (.pointer none)).frozen? ⟨b, 0, none⟩ = false := by simp [World.frozen?, hblk]
  clear hblk HAG1
  generalize w.setCell ⟨gT, oT + n, none⟩ (.pointer none) = w2 at HP HAG2 HEN c0 f0 ⊢
  go_wp2
  go_ret
  exact ⟨rfl, _, ⟨HP.out, fun k hk => HA.out.bd k (by omega)⟩, HAG2.out, HEN.out⟩
end Go.Proofs.Ythjppjcmapgkpaa.QAg
/- Agenda: container/heap's Remove. -/
namespace Go.Proofs.Ythjppjcmapgkpaa.QAg
open Go.RowKit Go.Proofs.YthjppjcmapgkpaaW.PrintWords Go.Proofs.YthjppjcmapgkpaaW.PrintLast Go.Proofs.YthjppjcmapgkpaaW.PrintMore
set_option linter.unusedVariables false
set_option linter.unusedSimpArgs false
/-- The entry at i is taken out of n + 1. -/
def RemR (n : Nat) (e : Nat → En) (i : Nat) (e' : Nat → En) : Prop := (i = n → e' = e) ∧ (i ≠ n → FixR n (swp e i n) i e')
theorem rem_last {n i : Nat} {e e' : Nat → En} (h : RemR n e i e') (hi : i < n + 1) : e' n = e i := by
  by_cases hn : i = n
  · rw [h.1 hn, hn]
  · obtain ⟨e1, f, h1, h2, h3⟩ := h.2 hn
    have hb := h1.beyond (by omega) n (Nat.le_refl _)
    by_cases hf : f = i
    · rw [(h2 hf).above n (by omega), hb, swp_r]
    · rw [h3 hf, hb, swp_r]
set_option maxRecDepth 100000 in
set_option maxHeartbeats 2000000 in
theorem remove_calls {w : World} {b mb B : Nat} {m v : Value} {nx : Int} {n : Nat} {e : Nat → En} (h : Hq w b B fLess m v nx (n + 1) e) {i : Nat} (hi : i < n + 1) : Calls Try.prog 47 #[ifc b, .int .i64 (i : Int)] w fun r w' => r = .returned (.iface 73 (.pointer (some ⟨(e i).g, 0, none⟩))) ∧ ∃ e' v', RemR n e i e' ∧ Hq w' b B fLess m v' nx n e' ∧ Ag b mb B w w' ∧ w'.heap[(e i).g]? = some (.cells (aE (e i) n) 75 (0, 0)) := by
  have HS := Aside0.mk h
  have HI := Aside0.mk hi
  have hn6 := h.hp.n6
  have q1 : IntKind.i64.wrap (((n + 1 : Nat) : Int) - 1) = (n : Int) := by rw [IntKind.wrap_i64]; omega
  have q2 : wrap64 (((n + 1 : Nat) : Int) - 1) = (n : Int) := by unfold wrap64; omega
  have q3 : wrap64 (((n : Nat) : Int) + 1 - 1) = (n : Int) := by unfold wrap64; omega
  have q4 : IntKind.i64.wrap (((n : Nat) : Int) + 1 - 1) = (n : Int) := by rw [IntKind.wrap_i64]; omega
  have q5 : wrap64 (n : Int) = (n : Int) := by unfold wrap64; omega
  clear hn6
  by_cases hin : i = n
  · have k1 : ((n : Int) != (i : Int)) = false := by simp [hin]
    have k2 : (n != i) = false := by simp [hin]
    have HRR : Aside0 (RemR n e i e) := ⟨⟨fun _ => rfl, fun hc => absurd hin hc⟩⟩
    clear h hi hin
    go_enter Try.func47, Try.ntmps47
    go_wp2_with (first
      | (go_at_call 34; refine (Len_calls HS.out.hp).mono ?_; rintro r w2 ⟨rfl, hw2⟩; replace hw2 := hw2.symm; subst hw2)
      | (go_at_call 67; refine (rowPop_calls (mb := mb) HS.out).mono ?_; rintro r w3 ⟨rfl, v', hq3, hg3, hx3⟩; have HD := Aside0.mk (And.intro hq3 (And.intro hg3 hx3)); clear hx3; clear hq3 hg3))
    go_ret
    exact ⟨by rw [← rem_last HRR.out HI.out]; rfl, e, v', HRR.out, HD.out.1, HD.out.2.1, by rw [← rem_last HRR.out HI.out]; exact HD.out.2.2⟩
  · have k1 : ((n : Int) != (i : Int)) = true := by simp; omega
    have k2 : (n != i) = true := by simp; omega
    have HIN : Aside0 (i < n) := ⟨by omega⟩
    have HNE := Aside0.mk hin
    clear h hi hin
    go_enter Try.func47, Try.ntmps47
    go_upto_region 6 with (first
      | (go_at_call 34; refine (Len_calls HS.out.hp).mono ?_; rintro r w2 ⟨rfl, hw2⟩; replace hw2 := hw2.symm; subst hw2)
      | (go_at_call 69; refine (Swap_calls (mb := mb) HS.out.hp HS.out.bd HI.out (Nat.lt_succ_self n)).mono ?_; rintro r w5 ⟨rfl, hp5, hg5⟩; have HZ : Aside0 (Hq w5 b B fLess m v nx (n + 1) (swp e i n) ∧ Ag b mb B w w5) := ⟨⟨hp5, same_bd (Same.swp HI.out (Nat.lt_succ_self n) e) HS.out.bd⟩, hg5⟩; clear hp5 hg5)
      | (go_at_call 48; refine (down_two (mb := mb) HZ.out.1 (Nat.le_succ n) HIN.out).mono ?_; rintro r w6 (⟨rfl, hd, hq3, hg3⟩ | ⟨rfl, e1, f, hf, hd, hq3, hg3⟩) <;> (have HD := Aside0.mk (And.intro hd (And.intro hq3 (HZ.out.2.trans hg3))); clear hd hq3 hg3))
      | (go_at_call 46; refine (up_calls (mb := mb) HD.out.2.1 HI.out).mono ?_; rintro r w7 ⟨rfl, e2, hu, hq4, hg4⟩; have HU := Aside0.mk (And.intro hu (And.intro hq4 (HD.out.2.2.trans hg4))); clear hu hq4 hg4))
    · have HX : Aside0 (∃ e', RemR n e i e' ∧ Hq w7 b B fLess m v nx (n + 1) e' ∧ Ag b mb B w w7) := ⟨⟨e2, ⟨fun hc => absurd hc HNE.out, fun _ => ⟨_, i, HD.out.1, fun _ => HU.out.1, fun hc => absurd rfl hc⟩⟩, HU.out.2.1, HU.out.2.2⟩⟩
      obtain ⟨e', hr, hq, hg⟩ := HX.out
      have HR := Aside0.mk (And.intro hr (And.intro hq hg))
      clear hr hq hg HX HU HD
      go_wp2_with (go_at_call 67; refine (rowPop_calls (mb := mb) HR.out.2.1).mono ?_; rintro r w8 ⟨rfl, v', hq3, hg3, hx3⟩; have HF := Aside0.mk (And.intro hq3 (And.intro (HR.out.2.2.trans hg3) hx3)); clear hx3; clear hq3 hg3)
      go_ret
      exact ⟨by rw [← rem_last HR.out.1 HI.out]; rfl, e', v', HR.out.1, HF.out.1, HF.out.2.1, by rw [← rem_last HR.out.1 HI.out]; exact HF.out.2.2⟩
    · have HX : Aside0 (∃ e', RemR n e i e' ∧ Hq w6 b B fLess m v nx (n + 1) e' ∧ Ag b mb B w w6) := ⟨⟨e1, ⟨fun hc => absurd hc HNE.out, fun _ => ⟨e1, f, HD.out.1, fun hc => absurd hc (Nat.ne_of_gt hf), fun _ => rfl⟩⟩, HD.out.2.1, HD.out.2.2⟩⟩
      obtain ⟨e', hr, hq, hg⟩ := HX.out
      have HR := Aside0.mk (And.intro hr (And.intro hq hg))
      clear hr hq hg HX HD
      go_wp2_with (go_at_call 67; refine (rowPop_calls (mb := mb) HR.out.2.1).mono ?_; rintro r w8 ⟨rfl, v', hq3, hg3, hx3⟩; have HF := Aside0.mk (And.intro hq3 (And.intro (HR.out.2.2.trans hg3) hx3)); clear hx3; clear hq3 hg3)
      go_ret
      exact ⟨by rw [← rem_last HR.out.1 HI.out]; rfl, e', v', HR.out.1, HF.out.1, HF.out.2.1, by rw [← rem_last HR.out.1 HI.out]; exact HF.out.2.2⟩
end Go.Proofs.Ythjppjcmapgkpaa.QAg
