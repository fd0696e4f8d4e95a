/-
  Printed texts and plain laws. No conditions.
-/
import Derived.Test.Ytiieddiheadocaasm
import Derived.Test.YtiieddiheadocaaRows
set_option linter.unusedVariables false
namespace Go.Proofs.Ytiieddiheadocaa.fnExactStepText
open Go Go.PI Go.PI.G Go.Proofs

theorem own : ownKnob Try.prog.godebug = none := by kernel_rfl
theorem laidOut : laidOutB Try.prog = true := by kernel_rfl

theorem run_eq (x0 : Int × (Int × Int × Int × ByteArray × (List (Int × Int × ByteArray)) × (List (Int × Int × ByteArray)) × Int × ByteArray × (List (ByteArray × Int × Bool × Bool × Int × Int × ByteArray)) × List ByteArray × ByteArray × ByteArray) × Int × Int × Int) (t0 : List Tag) (k : List TVal → List TVal → List TVal → Res) : s_laws_FnExactStepText.run [⟨(.pair (.int .i64) (.pair (.pair (.int .i64) (.pair (.int .i64) (.pair (.int .i64) (.pair .str (.pair (.slice (.pair (.int .i64) (.pair (.int .i64) .str))) (.pair (.slice (.pair (.int .i64) (.pair (.int .i64) .str))) (.pair (.int .i64) (.pair .str (.pair (.slice (.pair .str (.pair (.int .i64) (.pair .bool (.pair .bool (.pair (.int .i64) (.pair (.int .i64) .str))))))) (.pair (.slice .str) (.pair .str .str))))))))))) (.pair (.int .i64) (.pair (.int .i64) (.int .i64))))), true, x0, t0⟩] [] k = laws_FnExactStepText x0 (fun (r0 : Bool) => k [⟨.bool, false, r0, []⟩] [] []) := by kernel_rfl

theorem pure (vals : List TVal) (h : Vals s_laws_FnExactStepText.modes vals) : s_laws_FnExactStepText.run vals [] kTrue = some () := by
  have hm : s_laws_FnExactStepText.modes = [.borrow (.pair (.int .i64) (.pair (.pair (.int .i64) (.pair (.int .i64) (.pair (.int .i64) (.pair .str (.pair (.slice (.pair (.int .i64) (.pair (.int .i64) .str))) (.pair (.slice (.pair (.int .i64) (.pair (.int .i64) .str))) (.pair (.int .i64) (.pair .str (.pair (.slice (.pair .str (.pair (.int .i64) (.pair .bool (.pair .bool (.pair (.int .i64) (.pair (.int .i64) .str))))))) (.pair (.slice .str) (.pair .str .str))))))))))) (.pair (.int .i64) (.pair (.int .i64) (.int .i64))))) true] := by kernel_rfl
  rw [hm] at h
  obtain ⟨x0, t0, vals, rfl, w0, h⟩ := Vals.one h
  obtain rfl := Vals.none h
  exact (run_eq x0 t0 kTrue).trans ((row_FnExactStepText x0 w0 (fun r0 => kTrue [⟨.bool, false, r0, []⟩] [] [])).trans rfl)

set_option maxRecDepth 100000 in
theorem lifted (os : Os) (started : os.Started) (H : Type) (enc : TypeId × Value → H) :
    ReturnsInHanded {} Try.checked os 3 .any (Rows.fnExactStepTextSpec.pre6 enc Try.prog Try.f3 Rows.fnExactStepTextRow.domain false) (Rows.fnExactStepTextSpec.post enc Try.prog Try.f3 false true false false) := by
  refine returnsInHanded_of_change (C := Try.checked) own started (by kernel_rfl) Try.func3
    (ChangeSpec.witness6 (enc := enc) (C := Try.checked) false ⟨#[], #[.agg #[.int .i64 0, .int .i64 0, .int .i64 0, .int .i64 0, .string ⟨#[]⟩, .slice none 0 0, .slice none 0 0, .int .i64 0, .string ⟨#[]⟩, .slice none 0 0, .slice none 0 0, .string ⟨#[]⟩, .string ⟨#[]⟩, .int .i64 0, .int .i64 0, .int .i64 0]], []⟩ 8 (by kernel_rfl) (by kernel_rfl) (by kernel_rfl) (by kernel_rfl)) ?_
  intro W base args ds gs before hval hW _ _
  exact law_contract tysOk laidOut S_laws_FnExactStepText (by kernel_rfl) (tb := 4) (by kernel_rfl) Try.underlying4 (by kernel_rfl) (by kernel_rfl) (fun ds h => by
    match ds, h with
    | [d0], _ => rfl) pure hval hW

theorem and_t {a b : Bool} (ha : a = true) (hb : b = true) : (a && b) = true := by rw [ha, hb]; rfl
theorem c0 : (Rows.fnExactStepTextRow.wf (OpenSpec.ofChange Rows.fnExactStepTextSpec)) = true := by kernel_rfl
theorem c1 : (laidOutB Try.checked.prog) = true := by kernel_rfl
theorem c2 : (mapsRowed Try.checked.prog) = true := by kernel_rfl
theorem c3 : (Try.f3.params.all (Try.checked.prog.readableRec ·)) = true := by kernel_rfl
theorem c4 : (namedTie Try.checked.prog Rows.fnExactStepTextRow.named Rows.fnExactStepTextSpec.vars) = true := by kernel_rfl
theorem c5 : (Rows.fnExactStepTextRow.stops == []) = true := by kernel_rfl
theorem c6 : (Try.checked.prog.stops == []) = true := by kernel_rfl
theorem c7 : (Rows.fnExactStepTextRow.knobs == []) = true := by kernel_rfl
theorem c8 : (Try.checked.prog.stopKnobs == []) = true := by kernel_rfl
theorem c9 : (Rows.fnExactStepTextRow.inPlace == Try.checked.prog.inPlace 3) = true := by kernel_rfl
theorem c10 : (Rows.fnExactStepTextRow.unfollowed == Try.checked.prog.unfollowed 3) = true := by kernel_rfl
theorem c11 : (Rows.fnExactStepTextRow.recurses == Try.checked.prog.recurses 3) = true := by kernel_rfl
theorem c12 : (Rows.fnExactStepTextRow.named == Try.checked.prog.varsNamed 3) = true := by kernel_rfl
theorem c13 : (Rows.fnExactStepTextRow.maps == (Try.f3.params.toList ++ Rows.fnExactStepTextSpec.plain.varTypes Try.checked.prog).any (Try.checked.prog.mapsRec ·)) = true := by kernel_rfl
theorem c14 : (Rows.fnExactStepTextRow.ifaces == (Try.f3.params.toList ++ Rows.fnExactStepTextSpec.plain.varTypes Try.checked.prog).any (Try.checked.prog.ifacesRec ·)) = true := by kernel_rfl
theorem c15 : (Rows.fnExactStepTextRow.mapsOut == Try.checked.prog.mapsAmong Try.f3.resultTypes.toList) = true := by kernel_rfl
theorem c16 : (Rows.fnExactStepTextRow.loops == (Try.f3.params.toList ++ Rows.fnExactStepTextSpec.plain.varTypes Try.checked.prog).any (Try.checked.prog.loopsFrom ·)) = true := by kernel_rfl
theorem c17 : (Rows.fnExactStepTextRow.wideKeys == (Try.f3.params.toList ++ Rows.fnExactStepTextSpec.plain.varTypes Try.checked.prog ++ Try.f3.resultTypes.toList).any (Try.checked.prog.wideKeysFrom ·)) = true := by kernel_rfl
theorem c18 : (Rows.fnExactStepTextSpec.vars.all (Try.checked.prog.varReadable ·)) = true := by kernel_rfl
theorem c19 : (Try.f3.resultTypes.all (fun t => Try.checked.prog.readableRec t && decide (t < Try.checked.prog.types.size))) = true := by kernel_rfl
theorem c20 : (Rows.fnExactStepTextRow.ifacesOut == Try.f3.resultTypes.toList.any (Try.checked.prog.ifacesRec ·)) = true := by kernel_rfl
theorem c21 : (Rows.fnExactStepTextRow.loopsOut == Try.f3.resultTypes.toList.any (Try.checked.prog.loopsFrom ·)) = true := by kernel_rfl
theorem c22 : (Rows.fnExactStepTextRow.plainKeys == Try.checked.prog.plainKeys) = true := by kernel_rfl
theorem c23 : (Rows.fnExactStepTextRow.shortTexts.isNone) = true := by kernel_rfl
theorem c24 : (Try.checked.prog.stopsHeard) = true := by kernel_rfl
theorem c25 : (Try.checked.prog.mayEnter) = true := by kernel_rfl
theorem c26 : (Rows.fnExactStepTextRow.lifted == Try.checked.prog.liftsFinal) = true := by kernel_rfl
theorem c27 : (Try.checked.prog.make == some Rows.fnExactStepTextRow.make) = true := by kernel_rfl
theorem c29 : (Rows.fnExactStepTextRow.pinned == Rows.fnExactStepTextRow.pinnedBy) = true := by kernel_rfl
theorem c30 : (Rows.fnExactStepTextRow.veiled == (Try.f3.params.toList ++ Rows.fnExactStepTextSpec.plain.varTypes Try.checked.prog ++ Try.f3.resultTypes.toList).any (Try.checked.prog.veiledRec ·)) = true := by kernel_rfl
theorem c31 : (Rows.fnExactStepTextRow.veiledFits Try.checked.prog Try.f3.params.toList (Try.f3.params.toList ++ Rows.fnExactStepTextSpec.plain.varTypes Try.checked.prog ++ Try.f3.resultTypes.toList)) = true := by kernel_rfl
theorem closed : joinedFacts Try.checked.prog 3 Try.f3 Rows.fnExactStepTextSpec Rows.fnExactStepTextRow = true := by
  unfold joinedFacts
  exact and_t (and_t (and_t (and_t (and_t (and_t (and_t (and_t (and_t (and_t (and_t (and_t (and_t (and_t (and_t (and_t (and_t (and_t (and_t (and_t (and_t (and_t (and_t (and_t (and_t (and_t (and_t (and_t (and_t (and_t (and_t c0 c1) c2) c3) c4) c5) c6) c7) c8) c9) c10) c11) c12) c13) c14) c15) c16) c17) c18) c19) c20) c21) c22) c23) c24) c25) c26) c27) (by kernel_rfl)) c29) c30) c31
theorem named : Try.checked.prog.funcNamed Rows.fnExactStepTextRow.func = some 3 := by kernel_rfl
theorem wrapper : Try.f3.isWrapper Try.checked.prog Rows.fnExactStepTextRow.wrapper Rows.fnExactStepTextRow.mainSum := by unfold Func.isWrapper; first | (rw [if_pos (by decide +kernel)]; kernel_rfl) | (rw [if_neg (by decide +kernel)]; exact ⟨rfl, rfl⟩)
theorem over : Rows.fnExactStepTextRow.holds Try.pinned (OpenSpec.ofChange Rows.fnExactStepTextSpec) :=
  OpenClaim.holds_of_wide 3 Try.f3 rfl rfl rfl rfl rfl rfl rfl ⟨rfl, rfl, rfl, rfl, rfl⟩ rfl rfl rfl rfl rfl named Try.func3 closed
    (of_decide_eq_true (by kernel_rfl)) wrapper
    (fun os started H enc _ => lifted os started H enc)
end Go.Proofs.Ytiieddiheadocaa.fnExactStepText

namespace Go.Proofs.Ytiieddiheadocaa
/-- The row, under a short name, for the claim. -/
theorem fnExactStepText_holds : Rows.FnExactStepTextSaid := fnExactStepText.over
end Go.Proofs.Ytiieddiheadocaa
