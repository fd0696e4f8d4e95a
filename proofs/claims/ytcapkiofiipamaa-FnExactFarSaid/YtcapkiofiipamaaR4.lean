/-
  The law FnExactFar answers true at every input. No conditions.
-/
import Derived.Test.YtcapkiofiipamaaGFNXFar
import Derived.Test.YtcapkiofiipamaaRows
set_option linter.unusedVariables false
namespace Go.Proofs.Ytcapkiofiipamaa.fnExactFar
open Go Go.PI Go.PI.G Go.Proofs

theorem own : ownKnob Try.prog.godebug = none := by kernel_rfl
theorem laidOut : laidOutB Try.prog = true := by kernel_rfl

theorem run_eq (x0 : (List (ByteArray × (List (ByteArray × Int × Bool × Bool × Int × Int × ByteArray)) × List ByteArray)) × List (List (List (Int × Int × ByteArray)))) (t0 : List Tag) (x1 : (List (ByteArray × (List (ByteArray × Int × Bool × Bool × Int × Int × ByteArray)) × List ByteArray)) × List (List (List (Int × Int × ByteArray)))) (t1 : List Tag) (k : List TVal → List TVal → List TVal → Res) : s_laws_FnExactFar.run [⟨(.pair (.slice (.pair .str (.pair (.slice (.pair .str (.pair (.int .i64) (.pair .bool (.pair .bool (.pair (.int .i64) (.pair (.int .i64) .str))))))) (.slice .str)))) (.slice (.slice (.slice (.pair (.int .i64) (.pair (.int .i64) .str)))))), true, x0, t0⟩, ⟨(.pair (.slice (.pair .str (.pair (.slice (.pair .str (.pair (.int .i64) (.pair .bool (.pair .bool (.pair (.int .i64) (.pair (.int .i64) .str))))))) (.slice .str)))) (.slice (.slice (.slice (.pair (.int .i64) (.pair (.int .i64) .str)))))), true, x1, t1⟩] [] k = laws_FnExactFar x0 x1 (fun (r0 : Bool) => k [⟨.bool, false, r0, []⟩] [] []) := by kernel_rfl

theorem pure (vals : List TVal) (h : Vals s_laws_FnExactFar.modes vals) : s_laws_FnExactFar.run vals [] kTrue = some () := by
  have hm : s_laws_FnExactFar.modes = [.borrow (.pair (.slice (.pair .str (.pair (.slice (.pair .str (.pair (.int .i64) (.pair .bool (.pair .bool (.pair (.int .i64) (.pair (.int .i64) .str))))))) (.slice .str)))) (.slice (.slice (.slice (.pair (.int .i64) (.pair (.int .i64) .str)))))) true, .borrow (.pair (.slice (.pair .str (.pair (.slice (.pair .str (.pair (.int .i64) (.pair .bool (.pair .bool (.pair (.int .i64) (.pair (.int .i64) .str))))))) (.slice .str)))) (.slice (.slice (.slice (.pair (.int .i64) (.pair (.int .i64) .str)))))) true] := by kernel_rfl
  rw [hm] at h
  obtain ⟨x0, t0, vals, rfl, w0, h⟩ := Vals.one h
  obtain ⟨x1, t1, vals, rfl, w1, h⟩ := Vals.one h
  obtain rfl := Vals.none h
  exact (run_eq x0 t0 x1 t1 kTrue).trans ((row_FnExactFar x0 w0 x1 w1 (fun r0 => kTrue [⟨.bool, false, r0, []⟩] [] [])).trans rfl)

set_option maxRecDepth 100000 in
theorem lifted (os : Os) (started : os.Started) (H : Type) (enc : TypeId × Value → H) :
    ReturnsInHanded {} Try.checked os 4 .any (Rows.fnExactFarSpec.pre6 enc Try.prog Try.f4 Rows.fnExactFarRow.domain false) (Rows.fnExactFarSpec.post enc Try.prog Try.f4 false true false false) := by
  refine returnsInHanded_of_change (C := Try.checked) own started (by kernel_rfl) Try.func4
    (ChangeSpec.witness6 (enc := enc) (C := Try.checked) false ⟨#[], #[.agg #[.slice none 0 0, .slice none 0 0], .agg #[.slice none 0 0, .slice none 0 0]], []⟩ 8 (by kernel_rfl) (by kernel_rfl) (by kernel_rfl) (by kernel_rfl)) ?_
  intro W base args ds gs before hval hW _ _
  exact law_contract tysOk laidOut S_laws_FnExactFar (by kernel_rfl) (tb := 4) (by kernel_rfl) Try.underlying4 (by kernel_rfl) (by kernel_rfl) (fun ds h => by
    match ds, h with
    | [d0, d1], _ => rfl) pure hval hW

theorem and_t {a b : Bool} (ha : a = true) (hb : b = true) : (a && b) = true := by rw [ha, hb]; rfl
theorem c0 : (Rows.fnExactFarRow.wf (OpenSpec.ofChange Rows.fnExactFarSpec)) = true := by kernel_rfl
theorem c1 : (laidOutB Try.checked.prog) = true := by kernel_rfl
theorem c2 : (mapsRowed Try.checked.prog) = true := by kernel_rfl
theorem c3 : (Try.f4.params.all (Try.checked.prog.readableRec ·)) = true := by kernel_rfl
theorem c4 : (namedTie Try.checked.prog Rows.fnExactFarRow.named Rows.fnExactFarSpec.vars) = true := by kernel_rfl
theorem c5 : (Rows.fnExactFarRow.stops == []) = true := by kernel_rfl
theorem c6 : (Try.checked.prog.stops == []) = true := by kernel_rfl
theorem c7 : (Rows.fnExactFarRow.knobs == []) = true := by kernel_rfl
theorem c8 : (Try.checked.prog.stopKnobs == []) = true := by kernel_rfl
theorem c9 : (Rows.fnExactFarRow.inPlace == Try.checked.prog.inPlace 4) = true := by kernel_rfl
theorem c10 : (Rows.fnExactFarRow.unfollowed == Try.checked.prog.unfollowed 4) = true := by kernel_rfl
theorem c11 : (Rows.fnExactFarRow.recurses == Try.checked.prog.recurses 4) = true := by kernel_rfl
theorem c12 : (Rows.fnExactFarRow.named == Try.checked.prog.varsNamed 4) = true := by kernel_rfl
theorem c13 : (Rows.fnExactFarRow.maps == (Try.f4.params.toList ++ Rows.fnExactFarSpec.plain.varTypes Try.checked.prog).any (Try.checked.prog.mapsRec ·)) = true := by kernel_rfl
theorem c14 : (Rows.fnExactFarRow.ifaces == (Try.f4.params.toList ++ Rows.fnExactFarSpec.plain.varTypes Try.checked.prog).any (Try.checked.prog.ifacesRec ·)) = true := by kernel_rfl
theorem c15 : (Rows.fnExactFarRow.mapsOut == Try.checked.prog.mapsAmong Try.f4.resultTypes.toList) = true := by kernel_rfl
theorem c16 : (Rows.fnExactFarRow.loops == (Try.f4.params.toList ++ Rows.fnExactFarSpec.plain.varTypes Try.checked.prog).any (Try.checked.prog.loopsFrom ·)) = true := by kernel_rfl
theorem c17 : (Rows.fnExactFarRow.wideKeys == (Try.f4.params.toList ++ Rows.fnExactFarSpec.plain.varTypes Try.checked.prog ++ Try.f4.resultTypes.toList).any (Try.checked.prog.wideKeysFrom ·)) = true := by kernel_rfl
theorem c18 : (Rows.fnExactFarSpec.vars.all (Try.checked.prog.varReadable ·)) = true := by kernel_rfl
theorem c19 : (Try.f4.resultTypes.all (fun t => Try.checked.prog.readableRec t && decide (t < Try.checked.prog.types.size))) = true := by kernel_rfl
theorem c20 : (Rows.fnExactFarRow.ifacesOut == Try.f4.resultTypes.toList.any (Try.checked.prog.ifacesRec ·)) = true := by kernel_rfl
theorem c21 : (Rows.fnExactFarRow.loopsOut == Try.f4.resultTypes.toList.any (Try.checked.prog.loopsFrom ·)) = true := by kernel_rfl
theorem c22 : (Rows.fnExactFarRow.plainKeys == Try.checked.prog.plainKeys) = true := by kernel_rfl
theorem c23 : (Rows.fnExactFarRow.shortTexts.isNone) = true := by kernel_rfl
theorem c24 : (Try.checked.prog.stopsHeard) = true := by kernel_rfl
theorem c25 : (Try.checked.prog.mayEnter) = true := by kernel_rfl
theorem c26 : (Rows.fnExactFarRow.lifted == Try.checked.prog.liftsFinal) = true := by kernel_rfl
theorem c27 : (Try.checked.prog.make == some Rows.fnExactFarRow.make) = true := by kernel_rfl
theorem c29 : (Rows.fnExactFarRow.pinned == Rows.fnExactFarRow.pinnedBy) = true := by kernel_rfl
theorem c30 : (Rows.fnExactFarRow.veiled == (Try.f4.params.toList ++ Rows.fnExactFarSpec.plain.varTypes Try.checked.prog ++ Try.f4.resultTypes.toList).any (Try.checked.prog.veiledRec ·)) = true := by kernel_rfl
theorem c31 : (Rows.fnExactFarRow.veiledFits Try.checked.prog Try.f4.params.toList (Try.f4.params.toList ++ Rows.fnExactFarSpec.plain.varTypes Try.checked.prog ++ Try.f4.resultTypes.toList)) = true := by kernel_rfl
theorem closed : joinedFacts Try.checked.prog 4 Try.f4 Rows.fnExactFarSpec Rows.fnExactFarRow = true := by
  unfold joinedFacts
  exact and_t (and_t (and_t (and_t (and_t (and_t (and_t (and_t (and_t (and_t (and_t (and_t (and_t (and_t (and_t (and_t (and_t (and_t (and_t (and_t (and_t (and_t (and_t (and_t (and_t (and_t (and_t (and_t (and_t (and_t (and_t c0 c1) c2) c3) c4) c5) c6) c7) c8) c9) c10) c11) c12) c13) c14) c15) c16) c17) c18) c19) c20) c21) c22) c23) c24) c25) c26) c27) (by kernel_rfl)) c29) c30) c31
theorem named : Try.checked.prog.funcNamed Rows.fnExactFarRow.func = some 4 := by kernel_rfl
theorem wrapper : Try.f4.isWrapper Try.checked.prog Rows.fnExactFarRow.wrapper Rows.fnExactFarRow.mainSum := by unfold Func.isWrapper; first | (rw [if_pos (by decide +kernel)]; kernel_rfl) | (rw [if_neg (by decide +kernel)]; exact ⟨rfl, rfl⟩)
theorem over : Rows.fnExactFarRow.holds Try.pinned (OpenSpec.ofChange Rows.fnExactFarSpec) :=
  OpenClaim.holds_of_wide 4 Try.f4 rfl rfl rfl rfl rfl rfl rfl ⟨rfl, rfl, rfl, rfl, rfl⟩ rfl rfl rfl rfl rfl named Try.func4 closed
    (of_decide_eq_true (by kernel_rfl)) wrapper
    (fun os started H enc _ => lifted os started H enc)
end Go.Proofs.Ytcapkiofiipamaa.fnExactFar

namespace Go.Proofs.Ytcapkiofiipamaa
/-- The row, under a short name, for the claim. -/
theorem fnExactFar_holds : Rows.FnExactFarSaid := fnExactFar.over
end Go.Proofs.Ytcapkiofiipamaa
