/- Decode: pieces of a row of numbers, read. -/
import Derived.Test.YtoliipbmcekciaaDoorSDc
namespace Go.Proofs.YtoliipbmcekciaaDoor.QDc
open Go.RowKit Go.Proofs.YtoliipbmcekciaaDoorW.PrintWords Go.Proofs.YtoliipbmcekciaaDoorW.PrintLast Go.Proofs.YtoliipbmcekciaaDoorW.PrintMore
set_option linter.unusedVariables false
set_option linter.unusedSimpArgs false
/-- A piece of a row of numbers. -/
theorem C_sub {w : World} {k : IntKind} {ad : Addr} {n : Nat} {l : List Int} (h : Kd.C (Kd.int k) w (some ad) n l) (i m : Nat) (hm : i + m ≤ n) : Kd.C (Kd.int k) w (some (ad.add i)) m ((l.drop i).take m) := by
  obtain ⟨h1, h2, h3⟩ := h
  refine ⟨by rw [List.length_take, List.length_drop]; omega, by omega, fun hpos => ?_⟩
  obtain ⟨ad', he, hc⟩ := h3 (by omega)
  injection he with he
  subst he
  refine ⟨ad.add i, rfl, fun j p hj => ?_⟩
  have hjm : j < m := by
    have := (List.getElem?_eq_some_iff.1 hj).1
    rw [List.length_take, List.length_drop] at this
    omega
  have hl : l[i + j]? = some p := by
    rw [List.getElem?_take, if_pos hjm, List.getElem?_drop] at hj
    exact hj
  obtain ⟨c, h4, h5, h6⟩ := hc (i + j) p hl
  refine ⟨c, h4, h5, fun q u hu => ?_⟩
  rw [add_add']
  have := h6 q u hu
  rw [show (i + j) * (Kd.int k).sz + q = i + (j * (Kd.int k).sz + q) by show (i + j) * 1 + q = i + (j * 1 + q); omega] at this
  exact this
/-- What Split gives back, read. -/
theorem Split_reads {w w' : World} {ad : Addr} {n : Nat} {l : List Int} {most : Int} {m : Nat} {v : Value} (hr : Kd.C (Kd.int .u8) w (some ad) n l) (hS : Spl w ad n most m v w') :
    ∃ A c, v = .slice A m c ∧ m ≤ c ∧ Kd.C (Kd.slice 5 (Kd.int .u8)) w' A m ((List.range m).map (chunk l)) := by
  obtain ⟨hb, hown, h16, hm⟩ := hS
  obtain ⟨A, c, rfl, hc, hrd⟩ := own_reads_of_le (d := 0) hown
  refine ⟨A, c, rfl, hc, by simp, hrd.2.1, fun hpos => ?_⟩
  obtain ⟨a0, e0, hcell⟩ := hrd.2.2 hpos
  refine ⟨a0, e0, fun j p hj => ?_⟩
  have hjm : j < m := by
    have := (List.getElem?_eq_some_iff.1 hj).1
    simpa using this
  have hp : p = chunk l j := by
    rw [List.getElem?_map, List.getElem?_range hjm] at hj
    exact (Option.some.inj hj).symm
  subst hp
  have hl : l.length = n := hr.1
  have hlen : (chunk l j).length = min (n - 16 * j) 16 := by
    unfold chunk; rw [List.length_take, List.length_drop]; omega
  refine ⟨[chV ad n j], rfl, ⟨some (ad.add (16 * j)), min (n - 16 * j) 16, by unfold chV; rw [hlen], by omega, ?_⟩, fun q u hu => ?_⟩
  · rw [hlen]
    have := C_sub (Kd.C_below hr hb) (16 * j) (min (n - 16 * j) 16) (by omega)
    have e : (l.drop (16 * j)).take (min (n - 16 * j) 16) = chunk l j := by
      unfold chunk
      rw [← List.take_take]
      exact List.take_of_length_le (by rw [List.length_take, List.length_drop]; omega)
    rw [e] at this
    exact this
  · have h2 := hcell j hjm
    have e : (List.range m).getD j 0 = j := by rw [List.getD_eq_getElem?_getD, List.getElem?_range hjm]; rfl
    rw [e] at h2
    match q, hu with
    | 0, hu =>
      simp at hu
      subst hu
      show w'.cell? (a0.add (j * 1 + 0)) = _
      rw [Nat.mul_one, Nat.add_zero]
      exact h2
    | q + 1, hu => simp at hu
end Go.Proofs.YtoliipbmcekciaaDoor.QDc
