/- Lane: the map of what was taken. -/
import Derived.Test.YtglekbbdbnpohaaHLn
namespace Go.Proofs.Ytglekbbdbnpohaa.QLn
open Go.RowKit Go.Maps Go.Proofs.YtglekbbdbnpohaaW.PrintWords Go.Proofs.YtglekbbdbnpohaaW.PrintLast Go.Proofs.YtglekbbdbnpohaaW.PrintMore
set_option linter.unusedVariables false
set_option linter.unusedSimpArgs false
/-- What the map holds at a number. -/
def look (D : DataW Past) (k : Int) : Option Past := match D.atKey (.int .u64 k) .nil with
  | .held p => some p
  | _ => none
theorem isKey (k : Int) : WideAt.IsKeyLit (.int .u64 k) := trivial
theorem look_nil (k : Int) : look (.map []) k = none := rfl
theorem look_put_same {D : DataW Past} (h : IsMap D) (k : Int) (p : Past) : look (D.put (.int .u64 k) (.held p)) k = some p := by
  unfold look
  rw [atKey_put_same h (isKey k)]
theorem look_put_other {D : DataW Past} {k k' : Int} (hne : k' ≠ k) (d : DataW Past) : look (D.put (.int .u64 k) d) k' = look D k' := by
  unfold look
  rw [atKey_put_other (fun e => hne (by cases e; rfl))]
theorem look_del_same (D : DataW Past) (k : Int) : look (D.del (.int .u64 k)) k = none := by
  unfold look
  rw [atKey_del_same]
theorem look_del_other {D : DataW Past} {k k' : Int} (hne : k' ≠ k) : look (D.del (.int .u64 k)) k' = look D k' := by
  unfold look
  rw [atKey_del_other (fun e => hne (by cases e; rfl))]
theorem u64_wf {x : Int} (h : U64 x) : (Lit.int .u64 x).wf = true := by
  have hmin : IntKind.u64.min = 0 := rfl
  have hmax : IntKind.u64.max = 18446744073709551615 := rfl
  simp only [Lit.wf, Bool.and_eq_true, decide_eq_true_eq]
  have := h.1; have := h.2
  omega
theorem zeroP (w : World) : (zeroValue 79).run Try.prog w = .ok (Past.v ⟨0, 0, false⟩) w := by kernel_rfl
theorem own_look {w : World} {mb n : Nat} {D : DataW Past} (h : w.ownsMap Try.prog 22 Rp mb n D) {k : Int} (hk : U64 k) :
    (Instr.lookup 65 (.map (some mb)) (.int .u64 k) true).run Try.prog w = .ok (.tuple #[((look D k).getD ⟨0, 0, false⟩).v, .bool (look D k).isSome]) w ∧
    (Instr.lookup 65 (.map (some mb)) (.int .u64 k) false).run Try.prog w = .ok ((look D k).getD ⟨0, 0, false⟩).v w := by
  obtain ⟨es, clock, hb, F, _, rfl⟩ := h
  have hkey := keyOf_int_mk Try.underlying22 (u64_wf hk)
  constructor
  · rcases fit_look true keyed Try.underlying65 (zeroP w) hb F hkey with ⟨hrun, _, hat⟩ | ⟨e0, y, _, _, hrun, hRv, hat, _⟩
    · rw [hrun]; unfold look; rw [hat .nil]; rfl
    · obtain ⟨p, hp, rfl⟩ := Rp_inv hRv
      rw [hrun, hp]; unfold look; rw [hat .nil]; rfl
  · rcases fit_look false keyed Try.underlying65 (zeroP w) hb F hkey with ⟨hrun, _, hat⟩ | ⟨e0, y, _, _, hrun, hRv, hat, _⟩
    · rw [hrun]; unfold look; rw [hat .nil]; rfl
    · obtain ⟨p, hp, rfl⟩ := Rp_inv hRv
      rw [hrun, hp]; unfold look; rw [hat .nil]; rfl
theorem own_key {k : Int} (hk : U64 k) : keyOf Try.prog 22 (.int .u64 k) = some (.int .u64 k) := keyOf_int_mk Try.underlying22 (u64_wf hk)
end Go.Proofs.Ytglekbbdbnpohaa.QLn
