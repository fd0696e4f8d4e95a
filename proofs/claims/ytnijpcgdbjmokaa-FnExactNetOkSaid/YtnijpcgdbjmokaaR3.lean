/-
  The law FnExactNetOk answers true at every input. No conditions.
-/
import Derived.Test.YtnijpcgdbjmokaaN3
set_option linter.unusedVariables false
namespace Go.Proofs.Ytnijpcgdbjmokaa.fnExactNetOk
open Go Go.PI Go.PI.L3 Go.Proofs

theorem own : ownKnob Try.prog.godebug = none := by kernel_rfl
theorem laidOut : laidOutB Try.prog = true := by kernel_rfl

theorem pure (vals : List TVal) (h : Vals s_laws_FnExactNetOk.modes vals) : s_laws_FnExactNetOk.run vals [] kTrue = some () := by
  match vals, h with
  | [v0], h =>
    obtain ⟨⟨x0, t0, rfl, w0⟩, _⟩ := h
    exact netOk x0 w0.1 (fun x hx => (w0.2 x hx).1) (fun r0 => kTrue [⟨.bool, false, r0, []⟩] [] [])

set_option maxRecDepth 100000 in
theorem lifted (os : Os) (started : os.Started) (H : Type) (enc : TypeId × Value → H) :
    ReturnsInHanded {} Try.checked os 3 .any (Rows.fnExactNetOkSpec.pre6 enc Try.prog Try.f3 Rows.fnExactNetOkRow.domain false) (Rows.fnExactNetOkSpec.post enc Try.prog Try.f3 false true false false) := by
  refine returnsInHanded_of_change (C := Try.checked) own started (by kernel_rfl) Try.func3
    (ChangeSpec.witness6 (enc := enc) (C := Try.checked) false ⟨#[], #[.agg #[.slice none 0 0]], []⟩ 8 (by kernel_rfl) (by kernel_rfl) (by kernel_rfl) (by kernel_rfl)) ?_
  intro W base args ds gs before hval hW _ _
  exact law_contract tysOk laidOut S_laws_FnExactNetOk rfl (tb := 4) (by kernel_rfl) Try.underlying4 (by kernel_rfl) (by kernel_rfl) (fun ds h => by
    match ds, h with
    | [d0], _ => rfl) pure hval hW

theorem over : Rows.fnExactNetOkRow.holds Try.pinned (OpenSpec.ofChange Rows.fnExactNetOkSpec) :=
  OpenClaim.holds_of_wide 3 Try.f3 rfl rfl rfl rfl rfl rfl rfl ⟨rfl, rfl, rfl, rfl, rfl⟩ rfl rfl rfl rfl rfl (by kernel_rfl) Try.func3 (by kernel_rfl)
    (of_decide_eq_true (by kernel_rfl)) (by unfold Func.isWrapper; first | (rw [if_pos (by decide +kernel)]; kernel_rfl) | (rw [if_neg (by decide +kernel)]; exact ⟨rfl, rfl⟩))
    (fun os started H enc _ => lifted os started H enc)
end Go.Proofs.Ytnijpcgdbjmokaa.fnExactNetOk

namespace Go.Proofs.Ytnijpcgdbjmokaa
/-- The row, under a short name, for the claim. -/
theorem fnExactNetOk_holds : Rows.FnExactNetOkSaid := fnExactNetOk.over
end Go.Proofs.Ytnijpcgdbjmokaa
