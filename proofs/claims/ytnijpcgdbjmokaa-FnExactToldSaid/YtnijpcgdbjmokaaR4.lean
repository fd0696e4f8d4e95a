/-
  The law FnExactTold answers true at every input. No conditions.
-/
import Derived.Test.YtnijpcgdbjmokaaND
import Derived.Test.YtnijpcgdbjmokaaRows
set_option linter.unusedVariables false
namespace Go.Proofs.Ytnijpcgdbjmokaa.fnExactTold
open Go Go.PI Go.PI.LA Go.Proofs

theorem own : ownKnob Try.prog.godebug = none := by kernel_rfl
theorem laidOut : laidOutB Try.prog = true := by kernel_rfl

theorem run_eq (x0 : List ByteArray) (t0 : List Tag) (x1 : ByteArray) (t1 : List Tag) (k : List TVal → List TVal → List TVal → Res) : s_laws_FnExactTold.run [⟨(.slice .str), true, x0, t0⟩, ⟨.str, false, x1, t1⟩] [] k = laws_FnExactTold x0 x1 (fun (r0 : Bool) => k [⟨.bool, false, r0, []⟩] [] []) := by kernel_rfl

theorem pure (vals : List TVal) (h : Vals s_laws_FnExactTold.modes vals) : s_laws_FnExactTold.run vals [] kTrue = some () := by
  have hm : s_laws_FnExactTold.modes = [.borrow (.slice .str) true, .borrow .str false] := by kernel_rfl
  rw [hm] at h
  obtain ⟨x0, t0, vals, rfl, w0, h⟩ := Vals.one h
  obtain ⟨x1, t1, vals, rfl, w1, h⟩ := Vals.one h
  obtain rfl := Vals.none h
  exact (run_eq x0 t0 x1 t1 kTrue).trans ((row_FnExactTold x0 w0 x1 w1 (fun r0 => kTrue [⟨.bool, false, r0, []⟩] [] [])).trans rfl)

set_option maxRecDepth 100000 in
theorem lifted (os : Os) (started : os.Started) (H : Type) (enc : TypeId × Value → H) :
    ReturnsInHanded {} Try.checked os 4 .any (Rows.fnExactToldSpec.pre6 enc Try.prog Try.f4 Rows.fnExactToldRow.domain false) (Rows.fnExactToldSpec.post enc Try.prog Try.f4 false true false false) := by
  refine returnsInHanded_of_change (C := Try.checked) own started (by kernel_rfl) Try.func4
    (ChangeSpec.witness6 (enc := enc) (C := Try.checked) false ⟨#[], #[.agg #[.slice none 0 0], .string ⟨#[]⟩], []⟩ 8 (by kernel_rfl) (by kernel_rfl) (by kernel_rfl) (by kernel_rfl)) ?_
  intro W base args ds gs before hval hW _ _
  exact law_contract tysOk laidOut S_laws_FnExactTold (by kernel_rfl) (tb := 4) (by kernel_rfl) Try.underlying4 (by kernel_rfl) (by kernel_rfl) (fun ds h => by
    match ds, h with
    | [d0, d1], _ => rfl) pure hval hW

theorem over : Rows.fnExactToldRow.holds Try.pinned (OpenSpec.ofChange Rows.fnExactToldSpec) :=
  OpenClaim.holds_of_wide 4 Try.f4 rfl rfl rfl rfl rfl rfl rfl ⟨rfl, rfl, rfl, rfl, rfl⟩ rfl rfl rfl rfl rfl (by kernel_rfl) Try.func4 (by kernel_rfl)
    (of_decide_eq_true (by kernel_rfl)) (by unfold Func.isWrapper; first | (rw [if_pos (by decide +kernel)]; kernel_rfl) | (rw [if_neg (by decide +kernel)]; exact ⟨rfl, rfl⟩))
    (fun os started H enc _ => lifted os started H enc)
end Go.Proofs.Ytnijpcgdbjmokaa.fnExactTold

namespace Go.Proofs.Ytnijpcgdbjmokaa
/-- The row, under a short name, for the claim. -/
theorem fnExactTold_holds : Rows.FnExactToldSaid := fnExactTold.over
end Go.Proofs.Ytnijpcgdbjmokaa
