/-
  The law FnExactNetCut answers true at every input. No conditions.
-/
import Derived.Test.YtnijpcgdbjmokaaNC
import Derived.Test.YtnijpcgdbjmokaaRows
set_option linter.unusedVariables false
namespace Go.Proofs.Ytnijpcgdbjmokaa.fnExactNetCut
open Go Go.PI Go.PI.LA Go.Proofs

theorem own : ownKnob Try.prog.godebug = none := by kernel_rfl
theorem laidOut : laidOutB Try.prog = true := by kernel_rfl

theorem run_eq (x0 : List (List Int)) (t0 : List Tag) (x1 : Int) (t1 : List Tag) (x2 : Int) (t2 : List Tag) (k : List TVal → List TVal → List TVal → Res) : s_laws_FnExactNetCut.run [⟨(.slice (.slice (.int .u8))), true, x0, t0⟩, ⟨(.int .i64), false, x1, t1⟩, ⟨(.int .i64), false, x2, t2⟩] [] k = laws_FnExactNetCut x0 x1 x2 (fun (r0 : Bool) => k [⟨.bool, false, r0, []⟩] [] []) := by kernel_rfl

theorem pure (vals : List TVal) (h : Vals s_laws_FnExactNetCut.modes vals) : s_laws_FnExactNetCut.run vals [] kTrue = some () := by
  have hm : s_laws_FnExactNetCut.modes = [.borrow (.slice (.slice (.int .u8))) true, .borrow (.int .i64) false, .borrow (.int .i64) false] := by kernel_rfl
  rw [hm] at h
  obtain ⟨x0, t0, vals, rfl, w0, h⟩ := Vals.one h
  obtain ⟨x1, t1, vals, rfl, w1, h⟩ := Vals.one h
  obtain ⟨x2, t2, vals, rfl, w2, h⟩ := Vals.one h
  obtain rfl := Vals.none h
  exact (run_eq x0 t0 x1 t1 x2 t2 kTrue).trans ((row_FnExactNetCut x0 w0 x1 w1 x2 w2 (fun r0 => kTrue [⟨.bool, false, r0, []⟩] [] [])).trans rfl)

set_option maxRecDepth 100000 in
theorem lifted (os : Os) (started : os.Started) (H : Type) (enc : TypeId × Value → H) :
    ReturnsInHanded {} Try.checked os 9 .any (Rows.fnExactNetCutSpec.pre6 enc Try.prog Try.f9 Rows.fnExactNetCutRow.domain false) (Rows.fnExactNetCutSpec.post enc Try.prog Try.f9 false true false false) := by
  refine returnsInHanded_of_change (C := Try.checked) own started (by kernel_rfl) Try.func9
    (ChangeSpec.witness6 (enc := enc) (C := Try.checked) false ⟨#[], #[.agg #[.slice none 0 0], .int .i64 0, .int .i64 0], []⟩ 8 (by kernel_rfl) (by kernel_rfl) (by kernel_rfl) (by kernel_rfl)) ?_
  intro W base args ds gs before hval hW _ _
  exact law_contract tysOk laidOut S_laws_FnExactNetCut (by kernel_rfl) (tb := 4) (by kernel_rfl) Try.underlying4 (by kernel_rfl) (by kernel_rfl) (fun ds h => by
    match ds, h with
    | [d0, d1, d2], _ => rfl) pure hval hW

theorem over : Rows.fnExactNetCutRow.holds Try.pinned (OpenSpec.ofChange Rows.fnExactNetCutSpec) :=
  OpenClaim.holds_of_wide 9 Try.f9 rfl rfl rfl rfl rfl rfl rfl ⟨rfl, rfl, rfl, rfl, rfl⟩ rfl rfl rfl rfl rfl (by kernel_rfl) Try.func9 (by kernel_rfl)
    (of_decide_eq_true (by kernel_rfl)) (by unfold Func.isWrapper; first | (rw [if_pos (by decide +kernel)]; kernel_rfl) | (rw [if_neg (by decide +kernel)]; exact ⟨rfl, rfl⟩))
    (fun os started H enc _ => lifted os started H enc)
end Go.Proofs.Ytnijpcgdbjmokaa.fnExactNetCut

namespace Go.Proofs.Ytnijpcgdbjmokaa
/-- The row, under a short name, for the claim. -/
theorem fnExactNetCut_holds : Rows.FnExactNetCutSaid := fnExactNetCut.over
end Go.Proofs.Ytnijpcgdbjmokaa
