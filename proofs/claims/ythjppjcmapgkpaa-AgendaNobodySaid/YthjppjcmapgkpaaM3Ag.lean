/- Lane: LAg, MAg, NAg joined. -/
import Derived.Test.YthjppjcmapgkpaaM2Ag
/- Agenda: the row's Push; container/heap's Push. -/
namespace Go.Proofs.Ythjppjcmapgkpaa.QAg
open Go.RowKit Go.Proofs.YthjppjcmapgkpaaW.PrintWords Go.Proofs.YthjppjcmapgkpaaW.PrintLast Go.Proofs.YthjppjcmapgkpaaW.PrintMore
set_option linter.unusedVariables false
set_option linter.unusedSimpArgs false
theorem info73 : (Try.prog.info? 73).map (fun i => (i.zero, i.size, i.bytes)) = some (some (.pointer none), 1, 8) := by kernel_rfl
theorem assert73 (w : World) (g : Nat) : (Instr.typeAssert (.iface 73 (.pointer (some ⟨g, 0, none⟩))) 20 73 true).run Try.prog w = .ok (.tuple #[.pointer (some ⟨g, 0, none⟩), .bool true]) w := by kernel_rfl
/-- A row appended to a row; rows stay rows. -/
theorem run_append_row2 {P : Program} (w : World) (t ty e : TypeId) (i : TypeInfo) (z : Value) (size bytes : Nat) (h1 : P.underlying t = some (.slice e)) (h2 : P.info? e = some i) (h3 : i.zero = some z) (h4 : i.size = size) (h5 : i.bytes = bytes) (h6 : z.cells.size = size) (h7 : 0 < size)
    (B : Nat) (v : Value) (n : Nat) (xs : List Value) (hrow : RowQ w B e size v n xs) (hB : B ≤ w.heap.size)
    (ad : Addr) (m c : Nat) (ys : List Value) (hl : ys.length = m * size) (hc : ∀ j u, ys[j]? = some u → w.cell? (ad.add j) = some u) (h1c : ∀ u ∈ ys, u.oneCell' = true) (b1 : n + m ≤ maxLen) (b2 : (n + m) * bytes ≤ 140737488355328) :
    ∃ v' w', (Builtin.append_ #[t, t] ty #[v, .slice (some ad) m c]).run P w = .ok v' w' ∧ RowQ w' B e size v' (n + m) (xs ++ ys) ∧ Only B e w w' ∧ ∀ (i : Nat) (cur : Array Value), w.heap[i]? = some (.cells cur e (0, 0)) → ∃ cur', w'.heap[i]? = some (.cells cur' e (0, 0)) := by
  obtain ⟨hl0, hr⟩ := hrow
  have grow : ∀ (A : Option Addr) (cap : Nat), v = .slice A n cap → (A = none → n = 0 ∧ cap = 0) → (∀ b, A = some b → ∀ j u, xs[j]? = some u → w.cell? (b.add j) = some u) → cap < n + m → ∃ v' w', (Builtin.append_ #[t, t] ty #[v, .slice (some ad) m c]).run P w = .ok v' w' ∧ RowQ w' B e size v' (n + m) (xs ++ ys) ∧ Only B e w w' ∧ ∀ (i : Nat) (cur : Array Value), w.heap[i]? = some (.cells cur e (0, 0)) → ∃ cur', w'.heap[i]? = some (.cells cur' e (0, 0)) := by
    intro A cap hv hnone hx hfull
    subst hv
    cases A with
    | some b =>
      obtain ⟨v', w', hrun, r1, r2⟩ := run_append_arg_grows (P := P) w t ty e i z size bytes h1 h2 h3 h4 h5 h6 h7 b n cap xs hl0 (hx b rfl) ad m c ys hl hc hfull b1 b2
      exact ⟨v', w', hrun, (RowQ.own r1 (by omega)).base hB, Only.of_grown r2, fun i cur hi => ⟨cur, (r2.block i (Array.getElem?_eq_some_iff.1 hi).1 (by simp [Value.ownBlock])).trans hi⟩⟩
    | none =>
      obtain ⟨rfl, rfl⟩ := hnone rfl
      have h0 : xs = [] := List.eq_nil_of_length_eq_zero (by omega)
      subst h0
      obtain ⟨v', w', hrun, r1, r2, _⟩ := run_append_own (P := P) w w.heap.size t ty e i z size bytes h1 h2 h3 h4 h5 h6 h7 (.slice none 0 0) 0 [] (World.ownsRow_nil w _ e size) ad m c ys hl hc h1c b1 b2 (Nat.le_refl _)
      exact ⟨v', w', hrun, (RowQ.own r1 (by omega)).base hB, Only.of_grown r2, fun i cur hi => ⟨cur, (r2.block i (Array.getElem?_eq_some_iff.1 hi).1 (by simp [Value.ownBlock])).trans hi⟩⟩
  rcases hr with ⟨rfl, A, rfl⟩ | ⟨g, off, cap, cur, rfl, q0, q1, q2, q3, q4, q5⟩
  · rcases Nat.eq_zero_or_pos m with rfl | hm
    · have h0 : xs = [] := List.eq_nil_of_length_eq_zero (by omega)
      have h0' : ys = [] := List.eq_nil_of_length_eq_zero (by omega)
      subst h0 h0'
      refine ⟨.slice A 0 0, w, ?_, ⟨by simp, Or.inl ⟨rfl, _, rfl⟩⟩, ⟨rfl, rfl, rfl, Nat.le_refl _, fun _ _ => Or.inl rfl⟩, fun i cur hi => ⟨cur, hi⟩⟩
      have hfc := run_firstCells_some (P := P) w i.size 0 ad 0 c [] (by simp) (by simp)
      cases A with
      | none => simp [Builtin.append_, run_underlying h1, sizeOf, typeInfo, h2, Builtin.lenOf, hfc, storeCells]
      | some b => simp [Builtin.append_, run_underlying h1, sizeOf, typeInfo, h2, Builtin.lenOf, hfc, storeCells]
    · exact grow A 0 rfl (fun _ => ⟨rfl, rfl⟩) (fun b _ j u hj => by rw [List.eq_nil_of_length_eq_zero (by omega : xs.length = 0)] at hj; simp at hj) (by omega)
  · by_cases hroom : n + m ≤ cap
    · have hle : n * size + m * size ≤ cap * size := by rw [← Nat.add_mul]; exact Nat.mul_le_mul_right _ hroom
      have hrun := run_append_room_cells (P := P) w t ty e i h1 h2 g off n cap ad m c ys (by rw [h4]; exact hl) hc h1c hroom (fun j hj => by
        have hlt : off + n * i.size + j < cur.size := by rw [h4]; omega
        simp [World.cell?, q2, hlt]) (fun j hj => by simp [World.frozen?, q2])
      rw [h4] at hrun
      refine ⟨_, _, hrun, ?_, Only.set q1 q2 _ _, fun k cur' hk => ?_⟩
      rotate_left
      · by_cases hkg : k = g
        · subst hkg; exact ⟨_, blk_setCells _ _ _ _ q2⟩
        · exact ⟨cur', (far_setCells hkg _ _ _).trans hk⟩
      refine ⟨by rw [List.length_append, hl0, hl, Nat.add_mul], Or.inr ⟨g, off, cap, _, rfl, q0, q1, blk_setCells _ _ _ _ q2, hroom, by rw [size_setAll]; exact q4, fun j u hj => ?_⟩⟩
      rw [get_setAll _ _ _ _ (by omega)]
      by_cases hlt : j < n * size
      · rw [if_neg (by omega)]
        rw [List.getElem?_append_left (by omega)] at hj
        exact q5 j u hj
      · rw [List.getElem?_append_right (by omega), hl0] at hj
        have := (List.getElem?_eq_some_iff.1 hj).1
        rw [if_pos (by omega), show off + j - (off + n * size) = j - n * size by omega]
        exact hj
    · exact grow _ cap rfl (fun e => by cases e) (fun b hb j u hj => by cases hb; rw [Addr.add_lit]; simp only [World.cell?, q2]; exact q5 j u hj) (by omega)
def psh (e : Nat → En) (n : Nat) (x : En) : Nat → En := fun k => if k = n then x else e k
theorem psh_new (e : Nat → En) (n : Nat) (x : En) : psh e n x n = x := if_pos rfl
theorem psh_old (e : Nat → En) {n k : Nat} (x : En) (h : k ≠ n) : psh e n x k = e k := if_neg h
theorem fE_psh (e : Nat → En) (n : Nat) (x : En) : fE (psh e n x) (n + 1) = fE e n ++ [.pointer (some ⟨x.g, 0, none⟩)] := by
  unfold fE
  rw [List.range_succ, List.map_append, List.map_cons, List.map_nil, psh_new]
  congr 1
  exact List.map_congr_left (fun k hk => by rw [psh_old _ _ (by have := List.mem_range.1 hk; omega)])
theorem Only.ag {b mb B : Nat} {w w' : World} (h : Only B 73 w w') (hk : ∀ (i : Nat) (cur : Array Value), w.heap[i]? = some (.cells cur 73 (0, 0)) → ∃ cur', w'.heap[i]? = some (.cells cur' 73 (0, 0))) : Ag b mb B w w' :=
  ⟨h.os, h.tape, h.output, h.size, fun i hi => by
    rcases h.block i hi with h1 | ⟨h1, cur, h2⟩
    · exact Or.inl h1
    · exact Or.inr (Or.inr (Or.inr ⟨h1, cur, 73, h2, Or.inl rfl⟩)), fun i cur t hi => by
    rcases h.block i (Array.getElem?_eq_some_iff.1 hi).1 with h1 | ⟨h1, c2, h2⟩
    · exact ⟨cur, h1.trans hi⟩
    · rw [h2] at hi
      cases hi
      exact hk i _ h2⟩
theorem Only.block_of {B : Nat} {w w' : World} (h : Only B 73 w w') {i : Nat} {cur : Array Value} {t : TypeId} (hi : w.heap[i]? = some (.cells cur t (0, 0))) (ht : t ≠ 73) : w'.heap[i]? = some (.cells cur t (0, 0)) := by
  rcases h.block i (Array.getElem?_eq_some_iff.1 hi).1 with h1 | ⟨_, c, h1⟩
  · exact h1.trans hi
  · rw [hi] at h1
    injection h1 with h1
    injection h1 with _ h1
    exact absurd h1 ht
/-- One more entry, at the end. -/
theorem Hp.push {w w3 : World} {b B : Nat} {f m v v' : Value} {nx : Int} {n : Nat} {e : Nat → En} (h : Hp w b B f m nx v n e) (x : En) (hx : w.heap[x.g]? = some (.cells (aE x n) 75 (0, 0))) (hne : ∀ k, k < n → (e k).g ≠ x.g) (hn : n + 1 ≤ 1000000) (ho : Only B 73 w w3) (hr : RowQ w3 B 73 1 v' (n + 1) (fE e n ++ [.pointer (some ⟨x.g, 0, none⟩)])) :
    Hp (w3.setCell ⟨b, 0, none⟩ v') b B f m nx v' (n + 1) (psh e n x) := by
  have hb := ho.block_of h.blk (by decide)
  have hbb := blk_set hb 0 v'
  have hbe : ∀ (g : Nat) (cur : Array Value) (t : TypeId), w3.heap[g]? = some (.cells cur t (0, 0)) → t ≠ 63 → g ≠ b := fun g cur t hg ht hc => by
    rw [hc, hb] at hg
    injection hg with hg
    injection hg with _ hg
    exact ht hg.symm
  refine ⟨hbb, ?_, fun k hk => ?_, fun i j hi hj hij => ?_, h.lt, ?_, hn⟩
  · rw [fE_psh]
    exact hr.of (fun g cur _ hg => Below.heap_setCell _ _ _ _ (hbe g cur 73 hg (by decide)))
  · rcases Nat.lt_or_ge k n with hk' | hk'
    · rw [psh_old _ _ (by omega)]
      have h1 := ho.block_of (h.ent k hk') (by decide)
      exact (Below.heap_setCell _ _ _ _ (hbe _ _ 75 h1 (by decide))).trans h1
    · have : k = n := by omega
      subst this
      rw [psh_new]
      have h1 := ho.block_of hx (by decide)
      exact (Below.heap_setCell _ _ _ _ (hbe _ _ 75 h1 (by decide))).trans h1
  · by_cases hi' : i = n
    · by_cases hj' : j = n
      · omega
      · rw [hi', psh_new, psh_old _ _ hj'] at hij
        exact absurd hij.symm (hne j (by omega))
    · by_cases hj' : j = n
      · rw [hj', psh_new, psh_old _ _ hi'] at hij
        exact absurd hij (hne i (by omega))
      · rw [psh_old _ _ hi', psh_old _ _ hj'] at hij
        exact h.inj i j (by omega) (by omega) hij
  · have h1 := h.sz
    have h2 := ho.size
    have : (w3.setCell ⟨b, 0, none⟩ v').heap.size = w3.heap.size := by simp [World.setCell]
    omega
set_option maxRecDepth 100000 in
set_option maxHeartbeats 2000000 in
theorem rowPush_calls {w : World} {b mb B : Nat} {f m v : Value} {nx : Int} {n p : Nat} {e : Nat → En} (h : Hq w b B f m v nx n e) (x : En) (hx : w.heap[x.g]? = some (.cells (aE x p) 75 (0, 0))) (hxB : B ≤ x.g) (hne : ∀ k, k < n → (e k).g ≠ x.g) (hn : n + 1 ≤ 1000000) : Calls Try.prog 68 #[.pointer (some ⟨b, 0, none⟩), .iface 73 (.pointer (some ⟨x.g, 0, none⟩))] w fun r w' => r = .returned (.tuple #[]) ∧ ∃ v', Hq w' b B f m v' nx (n + 1) (psh e n x) ∧ Ag b mb B w w' := by
  have HA := Aside0.mk h
  have HX := Aside0.mk hx
  have HXB := Aside0.mk hxB
  have HNE := Aside0.mk hne
  have HN1 := Aside0.mk hn
  obtain ⟨A, c, rfl, hc⟩ := h.hp.form
  obtain ⟨i0, hi, hz0, hz1, hz2⟩ := info_parts info73
  have HI0 := Aside0.mk (And.intro hi (And.intro hz0 (And.intro hz1 hz2)))
  clear hi hz0 hz1 hz2
  have c0 := h.hp.cells.1
  have a1 : w.cell? ⟨x.g, 1, none⟩ = some (.int .i64 (p : Int)) := by simp only [World.cell?, hx]; rfl
  have f1 : w.frozen? ⟨x.g, 1, none⟩ = false := by simp [World.frozen?, hx]
  have ta := assert73
  clear h hx hxB hne hn hc
  go_enter Try.func68, Try.ntmps68
  go_upto_region 3 with fail
  clear c0 a1 f1 ta
  have hne2 : b ≠ x.g := fun hc => by
    have h1 := HX.out
    rw [← hc, HA.out.hp.blk] at h1
    injection h1 with h1
    injection h1 with _ h1
    exact absurd h1 (by decide)
  have HX2 : Aside0 ((w.setCell ⟨x.g, 1, none⟩ (.int .i64 (n : Int))).heap[x.g]? = some (.cells (aE x n) 75 (0, 0))) := ⟨at_set HX.out n⟩
  have HP2 : Aside0 (Hp (w.setCell ⟨x.g, 1, none⟩ (.int .i64 (n : Int))) b B f m nx (.slice A n c) n e) := ⟨⟨(Below.heap_setCell _ _ _ _ hne2).trans HA.out.hp.blk, HA.out.hp.row.of (fun g cur _ hg => Below.heap_setCell _ _ _ _ (fun hc => by
      rw [hc] at hg
      simp only at hg
      rw [HX.out] at hg
      injection hg with hg
      injection hg with _ hg
      exact absurd hg (by decide))), fun k hk => (Below.heap_setCell _ _ _ _ (HNE.out k hk)).trans (HA.out.hp.ent k hk), HA.out.hp.inj, HA.out.hp.lt, by have := HA.out.hp.sz; simpa [World.setCell] using this, HA.out.hp.n6⟩⟩
  have HAG : Aside0 (Ag b mb B w (w.setCell ⟨x.g, 1, none⟩ (.int .i64 (n : Int)))) := ⟨(Ag.of_below (Below.refl _ _)).set HX.out HXB.out (Or.inr rfl) _⟩
  clear hne2
  try change Code.wp _ _ _ _ (w.setCell ⟨x.g, 1, none⟩ (.int .i64 (n : Int)))
  generalize w.setCell ⟨x.g, 1, none⟩ (.int .i64 (n : Int)) = w2 at HX2 HP2 HAG ⊢
  have HP3 : Aside0 (Below w2.heap.size w2 (w2.alloc (.cells #[.pointer (some ⟨x.g, 0, none⟩)] 73))) := ⟨(Below.refl _ _).alloc (Nat.le_refl _) _⟩
  have HPA := Aside0.mk (HP2.out.below HP3.out)
  have HXA := Aside0.mk (obj_below HP3.out HX2.out)
  have c0 := HPA.out.cells.1
  have c00 := HP2.out.cells.1
  have HAG3 := Aside0.mk (HAG.out.trans (Ag.of_below HP3.out))
  have HAPP : Aside0 (∃ v' w3, (Builtin.append_ #[58, 58] 58 #[.slice A n c, .slice (some ⟨w2.heap.size, 0, none⟩) 1 1]).run Try.prog (w2.alloc (.cells #[.pointer (some ⟨x.g, 0, none⟩)] 73)) = .ok v' w3 ∧ RowQ w3 B 73 1 v' (n + 1) (fE e n ++ [.pointer (some ⟨x.g, 0, none⟩)]) ∧ Only B 73 (w2.alloc (.cells #[.pointer (some ⟨x.g, 0, none⟩)] 73)) w3 ∧ ∀ (i : Nat) (cur : Array Value), (w2.alloc (.cells #[.pointer (some ⟨x.g, 0, none⟩)] 73)).heap[i]? = some (.cells cur 73 (0, 0)) → ∃ cur', w3.heap[i]? = some (.cells cur' 73 (0, 0))) := ⟨run_append_row2 _ 58 58 73 i0 _ 1 8 Try.underlying58 HI0.out.1 HI0.out.2.1 HI0.out.2.2.1 HI0.out.2.2.2 rfl (by decide) B _ n (fE e n) HPA.out.row HPA.out.sz ⟨w2.heap.size, 0, none⟩ 1 1 [.pointer (some ⟨x.g, 0, none⟩)] rfl (cells_new _ _ _) (by intro u hu; simp only [List.mem_cons, List.not_mem_nil, or_false] at hu; subst hu; rfl) (by have := HN1.out; unfold maxLen; omega) (by have := HN1.out; omega)⟩
  obtain ⟨v', w3, hrun, hrow, hon, hkp⟩ := HAPP.out
  obtain ⟨A2, c2, rfl, hc2⟩ := hrow.form
  have HRUN := Aside0.mk hrun
  have HPP := Aside0.mk (HPA.out.push x HXA.out HNE.out HN1.out hon hrow)
  have hb3 := hon.block_of HPA.out.blk (by decide)
  have HAG4 : Aside0 (Ag b mb B w (w3.setCell ⟨b, 0, none⟩ (.slice A2 (n + 1) c2))) := ⟨(HAG3.out.trans (hon.ag hkp)).setB hb3 _⟩
  have c1 : w3.cell? ⟨b, 0, none⟩ = some (.slice A n c) := by simp only [World.cell?, hb3]; rfl
  have f1 : w3.frozen? ⟨b, 0, none⟩ = false := by simp [World.frozen?, hb3]
  clear hrun hrow hon hkp hc2 hb3 HAPP HP3
  go_wp2_with ((with_reducible refine gate_builtin (b := .append) rfl ?_); at_builtin; refine app_list _ rfl (.tmp 24) (.tmp 26) 58 rfl (v1 := .slice A n c) (v2 := .slice (some ⟨w2.heap.size, 0, none⟩) 1 1) rfl rfl HRUN.out ?_)
  exact bodyPost_end (results_none rfl _ _ _) rfl ⟨rfl, _, ⟨HPP.out, fun k hk => by
    rcases Nat.lt_or_ge k n with hk' | hk'
    · rw [psh_old _ _ (by omega)]; exact HA.out.bd k hk'
    · have : k = n := by omega
      subst this
      rw [psh_new]; exact HXB.out⟩, HAG4.out⟩
end Go.Proofs.Ythjppjcmapgkpaa.QAg
/- Agenda: container/heap's Push. -/
namespace Go.Proofs.Ythjppjcmapgkpaa.QAg
open Go.RowKit Go.Proofs.YthjppjcmapgkpaaW.PrintWords Go.Proofs.YthjppjcmapgkpaaW.PrintLast Go.Proofs.YthjppjcmapgkpaaW.PrintMore
set_option linter.unusedVariables false
set_option linter.unusedSimpArgs false
set_option maxRecDepth 100000 in
set_option maxHeartbeats 2000000 in
theorem heapPush_calls {w : World} {b mb B : Nat} {m v : Value} {nx : Int} {n p : Nat} {e : Nat → En} (h : Hq w b B fLess m v nx n e) (x : En) (hx : w.heap[x.g]? = some (.cells (aE x p) 75 (0, 0))) (hxB : B ≤ x.g) (hne : ∀ k, k < n → (e k).g ≠ x.g) (hn : n + 1 ≤ 1000000) : Calls Try.prog 35 #[ifc b, .iface 73 (.pointer (some ⟨x.g, 0, none⟩))] w fun r w' => r = .returned (.tuple #[]) ∧ ∃ e2 v', UpR LE (psh e n x) n e2 ∧ Hq w' b B fLess m v' nx (n + 1) e2 ∧ Ag b mb B w w' := by
  have HA := Aside0.mk h
  have HX := Aside0.mk (And.intro hx (And.intro hxB (And.intro hne hn)))
  have q1 : IntKind.i64.wrap (((n + 1 : Nat) : Int) - 1) = (n : Int) := by rw [IntKind.wrap_i64]; omega
  have q2 : wrap64 (((n + 1 : Nat) : Int) - 1) = (n : Int) := by unfold wrap64; omega
  have q3 : wrap64 (((n : Nat) : Int) + 1 - 1) = (n : Int) := by unfold wrap64; omega
  have q4 : IntKind.i64.wrap (((n : Nat) : Int) + 1 - 1) = (n : Int) := by rw [IntKind.wrap_i64]; omega
  have q5 : wrap64 (n : Int) = (n : Int) := by unfold wrap64; omega
  clear h hx hxB hne hn
  go_enter Try.func35, Try.ntmps35
  go_wp2_with (first
    | (go_at_call 68; refine (rowPush_calls (mb := mb) HA.out x HX.out.1 HX.out.2.1 HX.out.2.2.1 HX.out.2.2.2).mono ?_; rintro r w2 ⟨rfl, v', hq, hg⟩; have HB := Aside0.mk (And.intro hq hg); clear hq hg)
    | (go_at_call 34; refine (Len_calls HB.out.1.hp).mono ?_; rintro r w3 ⟨rfl, hw3⟩; replace hw3 := hw3.symm; subst hw3)
    | (go_at_call 46; refine (up_calls (mb := mb) HB.out.1 (Nat.lt_succ_self n)).mono ?_; rintro r w4 ⟨rfl, e2, hu, hq4, hg4⟩; have HU := Aside0.mk (And.intro hu (And.intro hq4 (HB.out.2.trans hg4))); clear hu hq4 hg4))
  exact bodyPost_end (results_none rfl _ _ _) rfl ⟨rfl, e2, v', HU.out.1, HU.out.2.1, HU.out.2.2⟩
end Go.Proofs.Ythjppjcmapgkpaa.QAg
/- Agenda: the map of entries by their numbers. Written by a program of this repo (tools/gen_nag.py, out of chapter 08's own texts). -/
namespace Go.Proofs.Ythjppjcmapgkpaa.QAg
open Go.RowKit Go.Maps Go.Proofs.YthjppjcmapgkpaaW.PrintWords Go.Proofs.YthjppjcmapgkpaaW.PrintLast Go.Proofs.YthjppjcmapgkpaaW.PrintMore
set_option linter.unusedVariables false
set_option linter.unusedSimpArgs false
theorem keyed : Go.Maps.Keyed Try.prog 3 := Go.Maps.int_keyed Try.underlying3
def Rv : Value → Option (DataW Nat × List MemPlace)
  | .pointer (some ⟨g, 0, none⟩) => some (.held g, [])
  | _ => none
theorem Rv_inv {v : Value} {y : DataW Nat × List MemPlace} (h : Rv v = some y) : ∃ g : Nat, v = .pointer (some ⟨g, 0, none⟩) ∧ y = (.held g, []) := by
  unfold Rv at h
  split at h
  · rename_i g
    cases h
    exact ⟨g, rfl, rfl⟩
  · cases h
/-- What the map holds at a number. -/
def look (D : DataW Nat) (k : Int) : Option Nat := match D.atKey (.int .i64 k) .nil with
  | .held p => some p
  | _ => none
theorem isKey (k : Int) : WideAt.IsKeyLit (.int .i64 k) := trivial
theorem look_nil (k : Int) : look (.map []) k = none := rfl
theorem look_put_same {D : DataW Nat} (h : IsMap D) (k : Int) (p : Nat) : look (D.put (.int .i64 k) (.held p)) k = some p := by
  unfold look
  rw [atKey_put_same h (isKey k)]
theorem look_put_other {D : DataW Nat} {k k' : Int} (hne : k' ≠ k) (d : DataW Nat) : look (D.put (.int .i64 k) d) k' = look D k' := by
  unfold look
  rw [atKey_put_other (fun e => hne (by cases e; rfl))]
theorem look_del_same (D : DataW Nat) (k : Int) : look (D.del (.int .i64 k)) k = none := by
  unfold look
  rw [atKey_del_same]
theorem look_del_other {D : DataW Nat} {k k' : Int} (hne : k' ≠ k) : look (D.del (.int .i64 k)) k' = look D k' := by
  unfold look
  rw [atKey_del_other (fun e => hne (by cases e; rfl))]
theorem zeroP (w : World) : (zeroValue 73).run Try.prog w = .ok (.pointer none) w := by kernel_rfl
/-- What the map tells at a number: an entry's pointer, or none. -/
def ptrO : Option Nat → Value
  | some g => .pointer (some ⟨g, 0, none⟩)
  | none => .pointer none
theorem own_look {w : World} {mb n : Nat} {D : DataW Nat} (h : w.ownsMap Try.prog 3 Rv mb n D) {k : Int} (hk : (Lit.int .i64 k).wf = true) :
    (Instr.lookup 61 (.map (some mb)) (.int .i64 k) true).run Try.prog w = .ok (.tuple #[ptrO (look D k), .bool (look D k).isSome]) w ∧
    (Instr.lookup 61 (.map (some mb)) (.int .i64 k) false).run Try.prog w = .ok (ptrO (look D k)) w := by
  obtain ⟨es, clock, hb, F, _, rfl⟩ := h
  have hkey := keyOf_int_mk Try.underlying3 hk
  constructor
  · rcases fit_look true keyed Try.underlying61 (zeroP w) hb F hkey with ⟨hrun, _, hat⟩ | ⟨e0, y, _, _, hrun, hRv, hat, _⟩
    · rw [hrun]; unfold look; rw [hat .nil]; rfl
    · obtain ⟨p, hp, rfl⟩ := Rv_inv hRv
      rw [hrun, hp]; unfold look; rw [hat .nil]; rfl
  · rcases fit_look false keyed Try.underlying61 (zeroP w) hb F hkey with ⟨hrun, _, hat⟩ | ⟨e0, y, _, _, hrun, hRv, hat, _⟩
    · rw [hrun]; unfold look; rw [hat .nil]; rfl
    · obtain ⟨p, hp, rfl⟩ := Rv_inv hRv
      rw [hrun, hp]; unfold look; rw [hat .nil]; rfl
theorem own_key {k : Int} (hk : (Lit.int .i64 k).wf = true) : keyOf Try.prog 3 (.int .i64 k) = some (.int .i64 k) := keyOf_int_mk Try.underlying3 hk
def kv (x : Int × Nat) : Lit × DataW Nat := (.int .i64 x.1, .held x.2)
/-- The map holds what the list says, in some order. -/
def Lst (D : DataW Nat) (l : List (Int × Nat)) : Prop := ∃ es, D = .map es ∧ es.Perm (l.map kv) ∧ (l.map Prod.fst).Nodup
theorem Lst.nil : Lst (.map []) [] := ⟨[], rfl, List.Perm.refl _, List.Pairwise.nil⟩
theorem Lst.isMap {D : DataW Nat} {l : List (Int × Nat)} (h : Lst D l) : IsMap D := by
  obtain ⟨es, e, _⟩ := h
  exact ⟨es, e⟩
def lookL (l : List (Int × Nat)) (k : Int) : Option Nat := (l.find? (fun x => x.1 == k)).map Prod.snd
theorem same_iff (a b : Int) : (Lit.int .i64 a).sameKey (.int .i64 b) = true ↔ a = b := by
  rw [WideAt.sameKey_iff (isKey b)]
  constructor
  · intro h; cases h; rfl
  · intro h; rw [h]
theorem nodup_eq : ∀ {l : List (Int × Nat)}, (l.map Prod.fst).Nodup → ∀ {k : Int} {p q : Nat}, (k, p) ∈ l → (k, q) ∈ l → p = q
  | [], _, _, _, _, h, _ => by simp at h
  | x :: l, hn, k, p, q, h1, h2 => by
    rw [List.map_cons, List.nodup_cons] at hn
    rcases List.mem_cons.1 h1 with e1 | m1
    · rcases List.mem_cons.1 h2 with e2 | m2
      · rw [← e1] at e2; cases e2; rfl
      · exfalso; exact hn.1 (List.mem_map.2 ⟨(k, q), m2, by rw [← e1]⟩)
    · rcases List.mem_cons.1 h2 with e2 | m2
      · exfalso; exact hn.1 (List.mem_map.2 ⟨(k, p), m1, by rw [← e2]⟩)
      · exact nodup_eq hn.2 m1 m2
theorem lookL_some {l : List (Int × Nat)} (hn : (l.map Prod.fst).Nodup) {k : Int} {p : Nat} : lookL l k = some p ↔ (k, p) ∈ l := by
  unfold lookL
  constructor
  · intro h
    cases hf : l.find? (fun x => x.1 == k) with
    | none => rw [hf] at h; cases h
    | some x =>
      rw [hf] at h
      have h1 := List.mem_of_find?_eq_some hf
      have h2 := List.find?_some hf
      simp only [beq_iff_eq] at h2
      cases h
      rw [← h2]
      exact h1
  · intro h
    cases hf : l.find? (fun x => x.1 == k) with
    | none =>
      have := List.find?_eq_none.1 hf _ h
      simp at this
    | some x =>
      have h1 := List.mem_of_find?_eq_some hf
      have h2 := List.find?_some hf
      simp only [beq_iff_eq] at h2
      obtain ⟨a, b⟩ := x
      simp only at h2
      subst h2
      rw [nodup_eq hn h1 h]; rfl
theorem lookL_none {l : List (Int × Nat)} {k : Int} : lookL l k = none ↔ ∀ x ∈ l, x.1 ≠ k := by
  unfold lookL
  rw [Option.map_eq_none_iff, List.find?_eq_none]
  simp
theorem Lst.look {D : DataW Nat} {l : List (Int × Nat)} (h : Lst D l) (k : Int) : QAg.look D k = lookL l k := by
  obtain ⟨es, rfl, hp, hn⟩ := h
  have hpw : es.Pairwise (fun p q => p.1 ≠ q.1) := by
    have h1 : (l.map kv).Pairwise (fun p q => p.1 ≠ q.1) := by
      rw [List.pairwise_map]
      have := List.pairwise_map.1 hn
      exact this.imp (fun hab e => hab (by simp only [kv, Lit.int.injEq] at e; exact e.2))
    exact (hp.pairwise_iff (fun {a b} hab => Ne.symm hab)).2 h1
  cases hl : lookL l k with
  | some p =>
    have hm := (lookL_some hn).1 hl
    have : kv (k, p) ∈ es := hp.mem_iff.2 (List.mem_map.2 ⟨_, hm, rfl⟩)
    unfold QAg.look
    rw [WideAt.atKey_mem .nil (isKey k) hpw this]
  | none =>
    have hm := lookL_none.1 hl
    have hh : has (.map es) (.int .i64 k) = false := by
      rw [has_eq, List.any_eq_false]
      intro x hx
      obtain ⟨y, hy, rfl⟩ := List.mem_map.1 (hp.mem_iff.1 hx)
      intro hc
      exact hm y hy ((same_iff _ _).1 hc)
    unfold QAg.look
    rw [atKey_of_not_has hh]
theorem ins_perm (x : Lit × DataW Nat) : ∀ l : List (Lit × DataW Nat), (DataW.insert x l).Perm (x :: l)
  | [] => List.Perm.refl _
  | y :: l => by
    unfold DataW.insert
    split
    · exact List.Perm.refl _
    · exact ((ins_perm x l).cons y).trans (List.Perm.swap x y l)
theorem filt (k : Int) (l : List (Int × Nat)) : (l.map kv).filter (fun p => !p.1.sameKey (.int .i64 k)) = (l.filter (fun x => decide (x.1 ≠ k))).map kv := by
  rw [List.filter_map]
  congr 1
  apply List.filter_congr
  intro x _
  show (!(Lit.int .i64 x.1).sameKey (.int .i64 k)) = decide (x.1 ≠ k)
  by_cases e : x.1 = k
  · rw [(same_iff _ _).2 e]; simp [e]
  · have : (Lit.int .i64 x.1).sameKey (.int .i64 k) = false := by
      cases hh : (Lit.int .i64 x.1).sameKey (.int .i64 k) with
      | false => rfl
      | true => exact absurd ((same_iff _ _).1 hh) e
    rw [this]; simp [e]
theorem Lst.del {D : DataW Nat} {l : List (Int × Nat)} (h : Lst D l) (k : Int) : Lst (D.del (.int .i64 k)) (l.filter (fun x => decide (x.1 ≠ k))) := by
  obtain ⟨es, rfl, hp, hn⟩ := h
  refine ⟨es.filter (fun p => !p.1.sameKey (.int .i64 k)), rfl, ?_, hn.sublist ((List.filter_sublist).map _)⟩
  rw [← filt]
  exact hp.filter _
theorem Lst.put_new {D : DataW Nat} {l : List (Int × Nat)} (h : Lst D l) (k : Int) (p : Nat) (hk : ∀ x ∈ l, x.1 ≠ k) : Lst (D.put (.int .i64 k) (.held p)) (l ++ [(k, p)]) := by
  obtain ⟨es, rfl, hp, hn⟩ := h
  refine ⟨_, rfl, ?_, ?_⟩
  · refine (ins_perm _ _).trans ?_
    have h1 := hp.filter (fun p => !p.1.sameKey (.int .i64 k))
    have e0 : l.filter (fun x => decide (x.1 ≠ k)) = l := List.filter_eq_self.2 (fun x hx => by simpa using hk x hx)
    rw [filt, e0] at h1
    rw [List.map_append]
    exact (h1.cons _).trans (List.perm_append_comm (l₁ := [kv (k, p)]) (l₂ := l.map kv))
  · rw [List.map_append, List.nodup_append]
    refine ⟨hn, by simp, fun a ha b hb => ?_⟩
    obtain ⟨x, hx, rfl⟩ := List.mem_map.1 ha
    simp only [List.map_cons, List.map_nil, List.mem_singleton] at hb
    rw [hb]
    exact hk x hx
def setL (l : List (Int × Nat)) (k : Int) (p : Nat) : List (Int × Nat) := l.map (fun x => if x.1 = k then (k, p) else x)
theorem setL_keys (k : Int) (p : Nat) (l : List (Int × Nat)) : (setL l k p).map Prod.fst = l.map Prod.fst := by
  unfold setL
  rw [List.map_map]
  apply List.map_congr_left
  intro x _
  by_cases e : x.1 = k
  · simp [e]
  · simp [e]
theorem setL_perm (k : Int) (p : Nat) : ∀ l : List (Int × Nat), (l.map Prod.fst).Nodup → (∃ q, (k, q) ∈ l) → (setL l k p).Perm ((k, p) :: l.filter (fun x => decide (x.1 ≠ k)))
  | [], _, h => by obtain ⟨q, hq⟩ := h; simp at hq
  | x :: l, hn, h => by
    rw [List.map_cons, List.nodup_cons] at hn
    by_cases e : x.1 = k
    · have hno : ∀ y ∈ l, y.1 ≠ k := fun y hy ey => hn.1 (List.mem_map.2 ⟨y, hy, by rw [ey, e]⟩)
      have e1 : setL l k p = l := by
        unfold setL
        refine (List.map_congr_left (g := id) (fun y hy => ?_)).trans (List.map_id l)
        rw [if_neg (hno y hy)]; rfl
      have e2 : l.filter (fun x => decide (x.1 ≠ k)) = l := List.filter_eq_self.2 (fun y hy => by simpa using hno y hy)
      show ((if x.1 = k then (k, p) else x) :: setL l k p).Perm _
      rw [if_pos e, e1, List.filter_cons_of_neg (by simp [e]), e2]
    · show ((if x.1 = k then (k, p) else x) :: setL l k p).Perm _
      rw [if_neg e, List.filter_cons_of_pos (by simp [e])]
      obtain ⟨q, hq⟩ := h
      have hq' : (k, q) ∈ l := by
        rcases List.mem_cons.1 hq with e3 | h3
        · exact absurd (by rw [← e3]) e
        · exact h3
      exact ((setL_perm k p l hn.2 ⟨q, hq'⟩).cons x).trans (List.Perm.swap _ _ _)
theorem Lst.put_old {D : DataW Nat} {l : List (Int × Nat)} (h : Lst D l) (k : Int) (p : Nat) (hk : ∃ q, (k, q) ∈ l) : Lst (D.put (.int .i64 k) (.held p)) (setL l k p) := by
  obtain ⟨es, rfl, hp, hn⟩ := h
  refine ⟨_, rfl, ?_, by rw [setL_keys]; exact hn⟩
  refine (ins_perm _ _).trans ?_
  have h1 := hp.filter (fun p => !p.1.sameKey (.int .i64 k))
  rw [filt] at h1
  exact (h1.cons _).trans ((setL_perm k p l hn hk).map kv).symm
end Go.Proofs.Ythjppjcmapgkpaa.QAg
