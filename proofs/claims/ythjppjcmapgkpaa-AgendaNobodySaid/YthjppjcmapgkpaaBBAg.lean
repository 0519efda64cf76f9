/- Agenda: drain's closure: it appends, and tells whether there is room for more. -/
import Derived.Test.YthjppjcmapgkpaaAAg
namespace Go.Proofs.Ythjppjcmapgkpaa.QAg
open Go.RowKit Go.Maps Go.Proofs.YthjppjcmapgkpaaW.PrintWords Go.Proofs.YthjppjcmapgkpaaW.PrintLast Go.Proofs.YthjppjcmapgkpaaW.PrintMore
set_option linter.unusedVariables false
set_option linter.unusedSimpArgs false
theorem own_base {w : World} {base size n g : Nat} {e : TypeId} {v : Value} {xs : List Value} (h : w.ownsRow base e size v n xs) (hg : v.ownBlock = some g) : base ≤ g := by
  rcases h.2 with ⟨rfl, _⟩ | ⟨g', cap, cur, rfl, h1, _⟩
  · cases hg
  · simp [Value.ownBlock] at hg; omega
theorem own_lt {w : World} {base size n g : Nat} {e : TypeId} {v : Value} {xs : List Value} (h : w.ownsRow base e size v n xs) (hg : v.ownBlock = some g) : g < w.heap.size := by
  obtain ⟨c, hc⟩ := own_typed h g hg
  exact (Array.getElem?_eq_some_iff.1 hc).1
theorem own_form {w : World} {base size n : Nat} {e : TypeId} {v : Value} {xs : List Value} (h : w.ownsRow base e size v n xs) : ∃ A cap, v = .slice A n cap := by
  rcases h.2 with ⟨rfl, rfl⟩ | ⟨g', cap, cur, rfl, h1, _⟩
  · exact ⟨_, _, rfl⟩
  · exact ⟨_, _, rfl⟩
/-- The box at go, and the row of things in it. -/
structure Ob (w : World) (go base : Nat) (v : Value) (c : Nat) (xs : List Value) : Prop where
  box : w.heap[go]? = some (.cells #[v] 36 (0, 0))
  row : w.ownsRow base 27 2 v c xs
theorem ob_step {w w1 w2 : World} {go base c c' : Nat} {v v' : Value} {xs ys : List Value} (h : Ob w go base v c xs) (h1 : Below w.heap.size w w1) (hown : w2.ownsRow base 27 2 v' c' ys) (hg : w1.grownBy w2 v.ownBlock) (hv : v'.ownBlock = v.ownBlock ∨ v'.ownBlock = some w1.heap.size) (hb : base ≤ go) :
    Ob (w2.setCell ⟨go, 0, none⟩ v') go base v' c' ys ∧ Kq go w (w2.setCell ⟨go, 0, none⟩ v') ∧ Below base w (w2.setCell ⟨go, 0, none⟩ v') := by
  have hlt : go < w.heap.size := (Array.getElem?_eq_some_iff.1 h.box).1
  have hs1 := h1.size
  have hgo : some go ≠ v.ownBlock := own_ne h.row h.box (by decide)
  have hb2 : w2.heap[go]? = some (.cells #[v] 36 (0, 0)) := (hg.block go (by omega) hgo).trans (obj_below h1 h.box)
  have hgo2 : some go ≠ v'.ownBlock := own_ne hown hb2 (by decide)
  have hsame : ∀ i, i < w.heap.size → i ≠ go → some i ≠ v.ownBlock → (w2.setCell ⟨go, 0, none⟩ v').heap[i]? = w.heap[i]? := fun i hi h2 h3 => (Below.heap_setCell _ _ _ _ h2).trans ((hg.block i (by omega) h3).trans (h1.block i hi))
  have hsz : (w2.setCell ⟨go, 0, none⟩ v').heap.size = w2.heap.size := by simp [World.setCell]
  refine ⟨⟨blk_set hb2 0 v', own_setCell hown hgo2 _⟩, ⟨by rw [hsz]; exact Nat.le_trans hs1 hg.size, fun i hi => ?_, fun i hi hf => ⟨hf.1, fun v2 hv2 => ?_⟩⟩, ⟨hg.os.trans h1.os, hg.tape.trans h1.tape, hg.output.trans h1.output, by rw [hsz]; exact Nat.le_trans hs1 hg.size, fun i hi => ?_⟩⟩
  · by_cases h2 : i = go
    · exact Or.inr (Or.inl h2)
    · by_cases h3 : some i = v.ownBlock
      · exact Or.inr (Or.inr (Or.inl ⟨own_typed h.row i h3.symm, fun hf => hf.2 v h.box h3.symm⟩))
      · exact Or.inl (hsame i hi h2 h3)
  · have hbs := blk_set hb2 0 v'
    rw [hbs] at hv2
    injection hv2 with hv2; injection hv2 with hv2; injection hv2 with hv2; injection hv2 with hv2
    rw [← hv2]
    rcases hv with e1 | e1
    · rw [e1]; exact hf.2 v h.box
    · rw [e1]; intro hc; injection hc with hc; omega
  · by_cases hlt2 : i < w.heap.size
    · exact hsame i hlt2 (by omega) (fun hc => by have := own_base h.row hc.symm; omega)
    · omega
def fT (pre : List En) : List Value := pre.flatMap (fun x => [.int .i8 x.key, .int .i64 x.mark])
theorem fT_snoc (pre : List En) (x : En) : fT (pre ++ [x]) = fT pre ++ [.int .i8 x.key, .int .i64 x.mark] := by unfold fT; rw [List.flatMap_append]; simp
theorem info27 : (Try.prog.info? 27).map (fun i => (i.zero, i.size, i.bytes)) = some (some (.agg (aT 0 0)), 2, 16) := by kernel_rfl
set_option maxRecDepth 100000 in
set_option maxHeartbeats 2000000 in
theorem yld_calls {w : World} {go gm base c : Nat} {v : Value} {xs : List Value} {lim : Int} (h : Ob w go base v c xs) (hm : w.heap[gm]? = some (.cells #[.int .i64 lim] 3 (0, 0))) (hb : base ≤ go) (hc : c < 1000000) (k m : Int) : Calls Try.prog 32 #[.agg (aT k m), .pointer (some ⟨go, 0, none⟩), .pointer (some ⟨gm, 0, none⟩)] w fun r w' => r = .returned (.bool (decide ((c : Int) + 1 < lim))) ∧ (∃ v', Ob w' go base v' (c + 1) (xs ++ [.int .i8 k, .int .i64 m])) ∧ Kq go w w' ∧ Below base w w' := by
  obtain ⟨Av, capv, rfl⟩ := own_form h.row
  have HW1 : Aside0 (Below w.heap.size w (w.alloc (.cells (aT k m) 27))) := ⟨(Below.refl _ _).alloc (Nat.le_refl _) _⟩
  have hp : (w.alloc (.cells (aT k m) 27)).heap[w.heap.size]? = some (.cells (aT k m) 27 (0, 0)) := World.alloc_heap_new _ _
  have x0 : (w.alloc (.cells (aT k m) 27)).cell? ⟨w.heap.size, 0, none⟩ = some (.int .i8 k) := by simp only [World.cell?, hp]; rfl
  have x1 : (w.alloc (.cells (aT k m) 27)).cell? ⟨w.heap.size, 1, none⟩ = some (.int .i64 m) := by simp only [World.cell?, hp]; rfl
  have hb1 := obj_below HW1.out h.box
  have c0 : (w.alloc (.cells (aT k m) 27)).cell? ⟨go, 0, none⟩ = some (.slice Av c capv) := by simp only [World.cell?, hb1]; rfl
  have HB := Aside0.mk h
  have HBB := Aside0.mk (And.intro hb hc)
  have HM := Aside0.mk hm
  have hlt := (Array.getElem?_eq_some_iff.1 h.box).1
  have HSZ : Aside0 (base ≤ (w.alloc (.cells (aT k m) 27)).heap.size ∧ go ≠ gm) := ⟨by have := HW1.out.size; omega, fun hc => by have h1 := h.box; rw [hc, hm] at h1; injection h1 with h1; injection h1 with _ h1; exact absurd h1 (by decide)⟩
  have HR1 : Aside0 ((w.alloc (.cells (aT k m) 27)).ownsRow base 27 2 (.slice Av c capv) c xs) := ⟨h.row.alloc _⟩
  clear hb1 hp hb hc hm hlt h
  go_enter Try.func32, Try.ntmps32
  go_upto_region 1 with fail
  generalize w.alloc (.cells (aT k m) 27) = w1 at HW1 x0 x1 c0 HSZ HR1 ⊢
  have HI0 := Aside0.mk (info_parts info27)
  obtain ⟨i0, hi0⟩ := HI0.out
  have HI := Aside0.mk hi0
  clear hi0 HI0
  have HAPP : Aside0 (∃ v' w3, (Builtin.append_ #[36, 36] 36 #[.slice Av c capv, .slice (some ⟨w1.heap.size, 0, none⟩) 1 1]).run Try.prog (w1.alloc (.cells #[.int .i8 k, .int .i64 m] 27)) = .ok v' w3 ∧ w3.ownsRow base 27 2 v' (c + 1) (xs ++ [.int .i8 k, .int .i64 m]) ∧ (w1.alloc (.cells #[.int .i8 k, .int .i64 m] 27)).grownBy w3 (Value.slice Av c capv).ownBlock ∧ (v' = .slice none 0 0 ↔ Value.slice Av c capv = .slice none 0 0 ∧ 1 = 0) ∧ (v'.ownBlock = (Value.slice Av c capv).ownBlock ∨ v'.ownBlock = some (w1.alloc (.cells #[.int .i8 k, .int .i64 m] 27)).heap.size)) := ⟨run_append_own_at _ base 36 36 27 i0 _ 2 16 Try.underlying36 HI.out.1 HI.out.2.1 HI.out.2.2.1 HI.out.2.2.2 rfl (by decide) _ c xs (HR1.out.alloc _) ⟨w1.heap.size, 0, none⟩ 1 1 [.int .i8 k, .int .i64 m] rfl (cells_new _ _ _) (by intro u hu; simp only [List.mem_cons, List.not_mem_nil, or_false] at hu; rcases hu with rfl | rfl <;> rfl) (by have := HBB.out.2; unfold maxLen; omega) (by have := HBB.out.2; omega) (by have := HSZ.out.1; simp; omega)⟩
  obtain ⟨v', w3, hrun, hown, hgrow, _, hvb⟩ := HAPP.out
  have HA5 := Aside0.mk (And.intro hown (And.intro hgrow hvb))
  have HST := Aside0.mk (ob_step HB.out (HW1.out.alloc HW1.out.size (.cells #[.int .i8 k, .int .i64 m] 27)) hown hgrow hvb HBB.out.1)
  obtain ⟨A2, c2, rfl⟩ := own_form hown
  have HRUN := Aside0.mk hrun
  have hbx : w3.heap[go]? = some (.cells #[.slice Av c capv] 36 (0, 0)) := ((hgrow.block go (by have := (Array.getElem?_eq_some_iff.1 HB.out.box).1; have := HW1.out.size; simp; omega) (own_ne HB.out.row HB.out.box (by decide))).trans (obj_below (HW1.out.alloc HW1.out.size (.cells #[.int .i8 k, .int .i64 m] 27)) HB.out.box))
  have hf : w3.frozen? ⟨go, 0, none⟩ = false := by simp [World.frozen?, hbx]
  have hcc : w3.cell? ⟨go, 0, none⟩ = some (.slice Av c capv) := by simp only [World.cell?, hbx]; rfl
  clear hrun hown hgrow hvb HAPP hbx
  go_upto_region 2 with ((with_reducible refine gate_builtin (b := .append) rfl ?_); at_builtin; refine app_list _ rfl (.tmp 5) (.tmp 7) 36 rfl (v1 := .slice Av c capv) (v2 := .slice (some ⟨w1.heap.size, 0, none⟩) 1 1) rfl rfl HRUN.out ?_)
  have HGM : Aside0 ((w3.setCell ⟨go, 0, none⟩ (.slice A2 (c + 1) c2)).heap[gm]? = some (.cells #[.int .i64 lim] 3 (0, 0))) := ⟨by
    rcases HST.out.2.1.block gm (Array.getElem?_eq_some_iff.1 HM.out).1 with h1 | h1 | ⟨⟨cur, h1⟩, _⟩ | ⟨r, h1⟩
    · exact h1.trans HM.out
    · exact absurd h1.symm HSZ.out.2
    · have h2 := HM.out
      rw [h1] at h2
      injection h2 with h2
      injection h2 with _ h2
      exact absurd h2 (by decide)
    · have h2 := HM.out
      rw [h1] at h2
      cases h2⟩
  clear hf hcc x0 x1 c0 HA5 HRUN
  generalize w3.setCell ⟨go, 0, none⟩ (.slice A2 (c + 1) c2) = w4 at HST HGM ⊢
  have hb4 := HST.out.1.box
  have hg4 := HGM.out
  have d0 : w4.cell? ⟨go, 0, none⟩ = some (.slice A2 (c + 1) c2) := by simp only [World.cell?, hb4]; rfl
  have d1 : w4.cell? ⟨gm, 0, none⟩ = some (.int .i64 lim) := by simp only [World.cell?, hg4]; rfl
  clear hb4 hg4
  go_wp2
  refine bodyPost_ret (results_tmp rfl _ _ _) rfl ⟨?_, ⟨_, HST.out.1⟩, HST.out.2.1, HST.out.2.2⟩
  first | rfl | (simp)
end Go.Proofs.Ythjppjcmapgkpaa.QAg
