/-
  The law FnExactRowSum answers true at every input. No conditions.
-/
import Derived.Test.YtnijpcgdbjmokaaNW
import Derived.Test.YtnijpcgdbjmokaaRows
set_option linter.unusedVariables false
namespace Go.Proofs.Ytnijpcgdbjmokaa.fnExactRowSum
open Go Go.PI Go.PI.L12 Go.Proofs

theorem own : ownKnob Try.prog.godebug = none := by kernel_rfl
theorem laidOut : laidOutB Try.prog = true := by kernel_rfl

theorem run_eq (x0 : List (Int × Int × ByteArray)) (t0 : List Tag) (k : List TVal → List TVal → List TVal → Res) : s_laws_FnExactRowSum.run [⟨(.slice (.pair (.int .i64) (.pair (.int .i64) .str))), true, x0, t0⟩] [] k = laws_FnExactRowSum x0 (fun (r0 : Bool) => k [⟨.bool, false, r0, []⟩] [] []) := by kernel_rfl

theorem pure (vals : List TVal) (h : Vals s_laws_FnExactRowSum.modes vals) : s_laws_FnExactRowSum.run vals [] kTrue = some () := by
  have hm : s_laws_FnExactRowSum.modes = [.borrow (.slice (.pair (.int .i64) (.pair (.int .i64) .str))) true] := by kernel_rfl
  rw [hm] at h
  obtain ⟨x0, t0, vals, rfl, w0, h⟩ := Vals.one h
  obtain rfl := Vals.none h
  exact (run_eq x0 t0 kTrue).trans ((row_FnExactRowSum x0 w0 (fun r0 => kTrue [⟨.bool, false, r0, []⟩] [] [])).trans rfl)

set_option maxRecDepth 100000 in
theorem lifted (os : Os) (started : os.Started) (H : Type) (enc : TypeId × Value → H) :
    ReturnsInHanded {} Try.checked os 12 .any (Rows.fnExactRowSumSpec.pre6 enc Try.prog Try.f12 Rows.fnExactRowSumRow.domain false) (Rows.fnExactRowSumSpec.post enc Try.prog Try.f12 false true false false) := by
  refine returnsInHanded_of_change (C := Try.checked) own started (by kernel_rfl) Try.func12
    (ChangeSpec.witness6 (enc := enc) (C := Try.checked) false ⟨#[], #[.agg #[.slice none 0 0]], []⟩ 8 (by kernel_rfl) (by kernel_rfl) (by kernel_rfl) (by kernel_rfl)) ?_
  intro W base args ds gs before hval hW _ _
  exact law_contract tysOk laidOut S_laws_FnExactRowSum (by kernel_rfl) (tb := 4) (by kernel_rfl) Try.underlying4 (by kernel_rfl) (by kernel_rfl) (fun ds h => by
    match ds, h with
    | [d0], _ => rfl) pure hval hW

theorem over : Rows.fnExactRowSumRow.holds Try.pinned (OpenSpec.ofChange Rows.fnExactRowSumSpec) :=
  OpenClaim.holds_of_wide 12 Try.f12 rfl rfl rfl rfl rfl rfl rfl ⟨rfl, rfl, rfl, rfl, rfl⟩ rfl rfl rfl rfl rfl (by kernel_rfl) Try.func12 (by kernel_rfl)
    (of_decide_eq_true (by kernel_rfl)) (by unfold Func.isWrapper; first | (rw [if_pos (by decide +kernel)]; kernel_rfl) | (rw [if_neg (by decide +kernel)]; exact ⟨rfl, rfl⟩))
    (fun os started H enc _ => lifted os started H enc)
end Go.Proofs.Ytnijpcgdbjmokaa.fnExactRowSum

namespace Go.Proofs.Ytnijpcgdbjmokaa
/-- The row, under a short name, for the claim. -/
theorem fnExactRowSum_holds : Rows.FnExactRowSumSaid := fnExactRowSum.over
end Go.Proofs.Ytnijpcgdbjmokaa
