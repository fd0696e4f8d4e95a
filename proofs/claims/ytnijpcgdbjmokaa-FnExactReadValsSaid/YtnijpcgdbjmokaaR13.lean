/-
  Printed texts and plain laws. No conditions.
-/
import Derived.Test.YtnijpcgdbjmokaaV13e
import Derived.Test.YtnijpcgdbjmokaaRows
set_option linter.unusedVariables false
namespace Go.Proofs.Ytnijpcgdbjmokaa.fnExactReadVals
open Go Go.PI Go.PI.G Go.Proofs

theorem own : ownKnob Try.prog.godebug = none := by kernel_rfl
theorem laidOut : laidOutB Try.prog = true := by kernel_rfl

theorem run_eq (x0 : List Int) (t0 : List Tag) (k : List TVal → List TVal → List TVal → Res) : s_laws_FnExactReadVals.run [⟨(.slice (.int .u8)), false, x0, t0⟩] [] k = laws_FnExactReadVals x0 (fun (r0 : Bool) => k [⟨.bool, false, r0, []⟩] [] []) := by kernel_rfl

theorem pure (vals : List TVal) (h : Vals s_laws_FnExactReadVals.modes vals) : s_laws_FnExactReadVals.run vals [] kTrue = some () := by
  have hm : s_laws_FnExactReadVals.modes = [.borrow (.slice (.int .u8)) false] := by kernel_rfl
  rw [hm] at h
  obtain ⟨x0, t0, vals, rfl, w0, h⟩ := Vals.one h
  obtain rfl := Vals.none h
  exact (run_eq x0 t0 kTrue).trans ((row_FnExactReadVals x0 w0 (fun r0 => kTrue [⟨.bool, false, r0, []⟩] [] [])).trans rfl)

set_option maxRecDepth 100000 in
theorem lifted (os : Os) (started : os.Started) (H : Type) (enc : TypeId × Value → H) :
    ReturnsInHanded {} Try.checked os 13 .any (Rows.fnExactReadValsSpec.pre6 enc Try.prog Try.f13 Rows.fnExactReadValsRow.domain false) (Rows.fnExactReadValsSpec.post enc Try.prog Try.f13 false true false false) := by
  refine returnsInHanded_of_change (C := Try.checked) own started (by kernel_rfl) Try.func13
    (ChangeSpec.witness6 (enc := enc) (C := Try.checked) false ⟨#[], #[.slice none 0 0], []⟩ 8 (by kernel_rfl) (by kernel_rfl) (by kernel_rfl) (by kernel_rfl)) ?_
  intro W base args ds gs before hval hW _ _
  exact law_contract tysOk laidOut S_laws_FnExactReadVals (by kernel_rfl) (tb := 4) (by kernel_rfl) Try.underlying4 (by kernel_rfl) (by kernel_rfl) (fun ds h => by
    match ds, h with
    | [d0], _ => rfl) pure hval hW

theorem and_t {a b : Bool} (ha : a = true) (hb : b = true) : (a && b) = true := by rw [ha, hb]; rfl
theorem c0 : (Rows.fnExactReadValsRow.wf (OpenSpec.ofChange Rows.fnExactReadValsSpec)) = true := by kernel_rfl
theorem c1 : (laidOutB Try.checked.prog) = true := by kernel_rfl
theorem c2 : (mapsRowed Try.checked.prog) = true := by kernel_rfl
theorem c3 : (Try.f13.params.all (Try.checked.prog.readableRec ·)) = true := by kernel_rfl
theorem c4 : (namedTie Try.checked.prog Rows.fnExactReadValsRow.named Rows.fnExactReadValsSpec.vars) = true := by kernel_rfl
theorem c5 : (Rows.fnExactReadValsRow.stops == []) = true := by kernel_rfl
theorem c6 : (Try.checked.prog.stops == []) = true := by kernel_rfl
theorem c7 : (Rows.fnExactReadValsRow.knobs == []) = true := by kernel_rfl
theorem c8 : (Try.checked.prog.stopKnobs == []) = true := by kernel_rfl
theorem c9 : (Rows.fnExactReadValsRow.inPlace == Try.checked.prog.inPlace 13) = true := by kernel_rfl
theorem c10 : (Rows.fnExactReadValsRow.unfollowed == Try.checked.prog.unfollowed 13) = true := by kernel_rfl
theorem c11 : (Rows.fnExactReadValsRow.recurses == Try.checked.prog.recurses 13) = true := by kernel_rfl
theorem c12 : (Rows.fnExactReadValsRow.named == Try.checked.prog.varsNamed 13) = true := by kernel_rfl
theorem c13 : (Rows.fnExactReadValsRow.maps == (Try.f13.params.toList ++ Rows.fnExactReadValsSpec.plain.varTypes Try.checked.prog).any (Try.checked.prog.mapsRec ·)) = true := by kernel_rfl
theorem c14 : (Rows.fnExactReadValsRow.ifaces == (Try.f13.params.toList ++ Rows.fnExactReadValsSpec.plain.varTypes Try.checked.prog).any (Try.checked.prog.ifacesRec ·)) = true := by kernel_rfl
theorem c15 : (Rows.fnExactReadValsRow.mapsOut == Try.checked.prog.mapsAmong Try.f13.resultTypes.toList) = true := by kernel_rfl
theorem c16 : (Rows.fnExactReadValsRow.loops == (Try.f13.params.toList ++ Rows.fnExactReadValsSpec.plain.varTypes Try.checked.prog).any (Try.checked.prog.loopsFrom ·)) = true := by kernel_rfl
theorem c17 : (Rows.fnExactReadValsRow.wideKeys == (Try.f13.params.toList ++ Rows.fnExactReadValsSpec.plain.varTypes Try.checked.prog ++ Try.f13.resultTypes.toList).any (Try.checked.prog.wideKeysFrom ·)) = true := by kernel_rfl
theorem c18 : (Rows.fnExactReadValsSpec.vars.all (Try.checked.prog.varReadable ·)) = true := by kernel_rfl
theorem c19 : (Try.f13.resultTypes.all (fun t => Try.checked.prog.readableRec t && decide (t < Try.checked.prog.types.size))) = true := by kernel_rfl
theorem c20 : (Rows.fnExactReadValsRow.ifacesOut == Try.f13.resultTypes.toList.any (Try.checked.prog.ifacesRec ·)) = true := by kernel_rfl
theorem c21 : (Rows.fnExactReadValsRow.loopsOut == Try.f13.resultTypes.toList.any (Try.checked.prog.loopsFrom ·)) = true := by kernel_rfl
theorem c22 : (Rows.fnExactReadValsRow.plainKeys == Try.checked.prog.plainKeys) = true := by kernel_rfl
theorem c23 : (Rows.fnExactReadValsRow.shortTexts.isNone) = true := by kernel_rfl
theorem c24 : (Try.checked.prog.stopsHeard) = true := by kernel_rfl
theorem c25 : (Try.checked.prog.mayEnter) = true := by kernel_rfl
theorem c26 : (Rows.fnExactReadValsRow.lifted == Try.checked.prog.liftsFinal) = true := by kernel_rfl
theorem c27 : (Try.checked.prog.make == some Rows.fnExactReadValsRow.make) = true := by kernel_rfl
theorem c29 : (Rows.fnExactReadValsRow.pinned == Rows.fnExactReadValsRow.pinnedBy) = true := by kernel_rfl
theorem c30 : (Rows.fnExactReadValsRow.veiled == (Try.f13.params.toList ++ Rows.fnExactReadValsSpec.plain.varTypes Try.checked.prog ++ Try.f13.resultTypes.toList).any (Try.checked.prog.veiledRec ·)) = true := by kernel_rfl
theorem c31 : (Rows.fnExactReadValsRow.veiledFits Try.checked.prog Try.f13.params.toList (Try.f13.params.toList ++ Rows.fnExactReadValsSpec.plain.varTypes Try.checked.prog ++ Try.f13.resultTypes.toList)) = true := by kernel_rfl
theorem closed : joinedFacts Try.checked.prog 13 Try.f13 Rows.fnExactReadValsSpec Rows.fnExactReadValsRow = true := by
  unfold joinedFacts
  exact and_t (and_t (and_t (and_t (and_t (and_t (and_t (and_t (and_t (and_t (and_t (and_t (and_t (and_t (and_t (and_t (and_t (and_t (and_t (and_t (and_t (and_t (and_t (and_t (and_t (and_t (and_t (and_t (and_t (and_t (and_t c0 c1) c2) c3) c4) c5) c6) c7) c8) c9) c10) c11) c12) c13) c14) c15) c16) c17) c18) c19) c20) c21) c22) c23) c24) c25) c26) c27) (by kernel_rfl)) c29) c30) c31
theorem named : Try.checked.prog.funcNamed Rows.fnExactReadValsRow.func = some 13 := by kernel_rfl
theorem wrapper : Try.f13.isWrapper Try.checked.prog Rows.fnExactReadValsRow.wrapper Rows.fnExactReadValsRow.mainSum := by unfold Func.isWrapper; first | (rw [if_pos (by decide +kernel)]; kernel_rfl) | (rw [if_neg (by decide +kernel)]; exact ⟨rfl, rfl⟩)
theorem over : Rows.fnExactReadValsRow.holds Try.pinned (OpenSpec.ofChange Rows.fnExactReadValsSpec) :=
  OpenClaim.holds_of_wide 13 Try.f13 rfl rfl rfl rfl rfl rfl rfl ⟨rfl, rfl, rfl, rfl, rfl⟩ rfl rfl rfl rfl rfl named Try.func13 closed
    (of_decide_eq_true (by kernel_rfl)) wrapper
    (fun os started H enc _ => lifted os started H enc)
end Go.Proofs.Ytnijpcgdbjmokaa.fnExactReadVals

namespace Go.Proofs.Ytnijpcgdbjmokaa
/-- The row, under a short name, for the claim. -/
theorem fnExactReadVals_holds : Rows.FnExactReadValsSaid := fnExactReadVals.over
end Go.Proofs.Ytnijpcgdbjmokaa
