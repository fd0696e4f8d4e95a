/-
  Printed texts and plain laws. No conditions.
-/
import Derived.Test.YtcapkiofiipamaaGreatU3l
import Derived.Test.YtcapkiofiipamaaGreatRows
set_option linter.unusedVariables false
namespace Go.Proofs.YtcapkiofiipamaaGreat.fnExactUnlike
open Go Go.PI Go.PI.G Go.Proofs

theorem own : ownKnob Tryz.prog.godebug = none := by kernel_rfl
theorem laidOut : laidOutB Tryz.prog = true := by kernel_rfl

theorem run_eq (x0 : (List (ByteArray × (List (ByteArray × Int × Bool × Bool × Int × Int × ByteArray)) × List ByteArray)) × List (List (List (Int × Int × ByteArray)))) (t0 : List Tag) (x1 : (List (ByteArray × (List (ByteArray × Int × Bool × Bool × Int × Int × ByteArray)) × List ByteArray)) × List (List (List (Int × Int × ByteArray)))) (t1 : List Tag) (k : List TVal → List TVal → List TVal → Res) : s_laws_FnExactUnlike.run [⟨(.pair (.slice (.pair .str (.pair (.slice (.pair .str (.pair (.int .i64) (.pair .bool (.pair .bool (.pair (.int .i64) (.pair (.int .i64) .str))))))) (.slice .str)))) (.slice (.slice (.slice (.pair (.int .i64) (.pair (.int .i64) .str)))))), true, x0, t0⟩, ⟨(.pair (.slice (.pair .str (.pair (.slice (.pair .str (.pair (.int .i64) (.pair .bool (.pair .bool (.pair (.int .i64) (.pair (.int .i64) .str))))))) (.slice .str)))) (.slice (.slice (.slice (.pair (.int .i64) (.pair (.int .i64) .str)))))), true, x1, t1⟩] [] k = laws_FnExactUnlike x0 x1 (fun (r0 : Bool) => k [⟨.bool, false, r0, []⟩] [] []) := by kernel_rfl

theorem pure (vals : List TVal) (h : Vals s_laws_FnExactUnlike.modes vals) : s_laws_FnExactUnlike.run vals [] kTrue = some () := by
  have hm : s_laws_FnExactUnlike.modes = [.borrow (.pair (.slice (.pair .str (.pair (.slice (.pair .str (.pair (.int .i64) (.pair .bool (.pair .bool (.pair (.int .i64) (.pair (.int .i64) .str))))))) (.slice .str)))) (.slice (.slice (.slice (.pair (.int .i64) (.pair (.int .i64) .str)))))) true, .borrow (.pair (.slice (.pair .str (.pair (.slice (.pair .str (.pair (.int .i64) (.pair .bool (.pair .bool (.pair (.int .i64) (.pair (.int .i64) .str))))))) (.slice .str)))) (.slice (.slice (.slice (.pair (.int .i64) (.pair (.int .i64) .str)))))) true] := by kernel_rfl
  rw [hm] at h
  obtain ⟨x0, t0, vals, rfl, w0, h⟩ := Vals.one h
  obtain ⟨x1, t1, vals, rfl, w1, h⟩ := Vals.one h
  obtain rfl := Vals.none h
  exact (run_eq x0 t0 x1 t1 kTrue).trans ((row_FnExactUnlike x0 w0 x1 w1 (fun r0 => kTrue [⟨.bool, false, r0, []⟩] [] [])).trans rfl)

set_option maxRecDepth 100000 in
theorem lifted (os : Os) (started : os.Started) (H : Type) (enc : TypeId × Value → H) :
    ReturnsInHanded {} Tryz.checked os 3 .any (Rows.fnExactUnlikeSpec.pre6 enc Tryz.prog Tryz.f3 Rows.fnExactUnlikeRow.domain false) (Rows.fnExactUnlikeSpec.post enc Tryz.prog Tryz.f3 false true false false) := by
  refine returnsInHanded_of_change (C := Tryz.checked) own started (by kernel_rfl) Tryz.func3
    (ChangeSpec.witness6 (enc := enc) (C := Tryz.checked) false ⟨#[], #[.agg #[.slice none 0 0, .slice none 0 0], .agg #[.slice none 0 0, .slice none 0 0]], []⟩ 8 (by kernel_rfl) (by kernel_rfl) (by kernel_rfl) (by kernel_rfl)) ?_
  intro W base args ds gs before hval hW _ _
  exact law_contract tysOk laidOut S_laws_FnExactUnlike (by kernel_rfl) (tb := 4) (by kernel_rfl) Tryz.underlying4 (by kernel_rfl) (by kernel_rfl) (fun ds h => by
    match ds, h with
    | [d0, d1], _ => rfl) pure hval hW

theorem and_t {a b : Bool} (ha : a = true) (hb : b = true) : (a && b) = true := by rw [ha, hb]; rfl
theorem c0 : (Rows.fnExactUnlikeRow.wf (OpenSpec.ofChange Rows.fnExactUnlikeSpec)) = true := by kernel_rfl
theorem c1 : (laidOutB Tryz.checked.prog) = true := by kernel_rfl
theorem c2 : (mapsRowed Tryz.checked.prog) = true := by kernel_rfl
theorem c3 : (Tryz.f3.params.all (Tryz.checked.prog.readableRec ·)) = true := by kernel_rfl
theorem c4 : (namedTie Tryz.checked.prog Rows.fnExactUnlikeRow.named Rows.fnExactUnlikeSpec.vars) = true := by kernel_rfl
theorem c5 : (Rows.fnExactUnlikeRow.stops == []) = true := by kernel_rfl
theorem c6 : (Tryz.checked.prog.stops == []) = true := by kernel_rfl
theorem c7 : (Rows.fnExactUnlikeRow.knobs == []) = true := by kernel_rfl
theorem c8 : (Tryz.checked.prog.stopKnobs == []) = true := by kernel_rfl
theorem c9 : (Rows.fnExactUnlikeRow.inPlace == Tryz.checked.prog.inPlace 3) = true := by kernel_rfl
theorem c10 : (Rows.fnExactUnlikeRow.unfollowed == Tryz.checked.prog.unfollowed 3) = true := by kernel_rfl
theorem c11 : (Rows.fnExactUnlikeRow.recurses == Tryz.checked.prog.recurses 3) = true := by kernel_rfl
theorem c12 : (Rows.fnExactUnlikeRow.named == Tryz.checked.prog.varsNamed 3) = true := by kernel_rfl
theorem c13 : (Rows.fnExactUnlikeRow.maps == (Tryz.f3.params.toList ++ Rows.fnExactUnlikeSpec.plain.varTypes Tryz.checked.prog).any (Tryz.checked.prog.mapsRec ·)) = true := by kernel_rfl
theorem c14 : (Rows.fnExactUnlikeRow.ifaces == (Tryz.f3.params.toList ++ Rows.fnExactUnlikeSpec.plain.varTypes Tryz.checked.prog).any (Tryz.checked.prog.ifacesRec ·)) = true := by kernel_rfl
theorem c15 : (Rows.fnExactUnlikeRow.mapsOut == Tryz.checked.prog.mapsAmong Tryz.f3.resultTypes.toList) = true := by kernel_rfl
theorem c16 : (Rows.fnExactUnlikeRow.loops == (Tryz.f3.params.toList ++ Rows.fnExactUnlikeSpec.plain.varTypes Tryz.checked.prog).any (Tryz.checked.prog.loopsFrom ·)) = true := by kernel_rfl
theorem c17 : (Rows.fnExactUnlikeRow.wideKeys == (Tryz.f3.params.toList ++ Rows.fnExactUnlikeSpec.plain.varTypes Tryz.checked.prog ++ Tryz.f3.resultTypes.toList).any (Tryz.checked.prog.wideKeysFrom ·)) = true := by kernel_rfl
theorem c18 : (Rows.fnExactUnlikeSpec.vars.all (Tryz.checked.prog.varReadable ·)) = true := by kernel_rfl
theorem c19 : (Tryz.f3.resultTypes.all (fun t => Tryz.checked.prog.readableRec t && decide (t < Tryz.checked.prog.types.size))) = true := by kernel_rfl
theorem c20 : (Rows.fnExactUnlikeRow.ifacesOut == Tryz.f3.resultTypes.toList.any (Tryz.checked.prog.ifacesRec ·)) = true := by kernel_rfl
theorem c21 : (Rows.fnExactUnlikeRow.loopsOut == Tryz.f3.resultTypes.toList.any (Tryz.checked.prog.loopsFrom ·)) = true := by kernel_rfl
theorem c22 : (Rows.fnExactUnlikeRow.plainKeys == Tryz.checked.prog.plainKeys) = true := by kernel_rfl
theorem c23 : (Rows.fnExactUnlikeRow.shortTexts.isNone) = true := by kernel_rfl
theorem c24 : (Tryz.checked.prog.stopsHeard) = true := by kernel_rfl
theorem c25 : (Tryz.checked.prog.mayEnter) = true := by kernel_rfl
theorem c26 : (Rows.fnExactUnlikeRow.lifted == Tryz.checked.prog.liftsFinal) = true := by kernel_rfl
theorem c27 : (Tryz.checked.prog.make == some Rows.fnExactUnlikeRow.make) = true := by kernel_rfl
theorem c29 : (Rows.fnExactUnlikeRow.pinned == Rows.fnExactUnlikeRow.pinnedBy) = true := by kernel_rfl
theorem c30 : (Rows.fnExactUnlikeRow.veiled == (Tryz.f3.params.toList ++ Rows.fnExactUnlikeSpec.plain.varTypes Tryz.checked.prog ++ Tryz.f3.resultTypes.toList).any (Tryz.checked.prog.veiledRec ·)) = true := by kernel_rfl
theorem c31 : (Rows.fnExactUnlikeRow.veiledFits Tryz.checked.prog Tryz.f3.params.toList (Tryz.f3.params.toList ++ Rows.fnExactUnlikeSpec.plain.varTypes Tryz.checked.prog ++ Tryz.f3.resultTypes.toList)) = true := by kernel_rfl
theorem closed : joinedFacts Tryz.checked.prog 3 Tryz.f3 Rows.fnExactUnlikeSpec Rows.fnExactUnlikeRow = true := by
  unfold joinedFacts
  exact and_t (and_t (and_t (and_t (and_t (and_t (and_t (and_t (and_t (and_t (and_t (and_t (and_t (and_t (and_t (and_t (and_t (and_t (and_t (and_t (and_t (and_t (and_t (and_t (and_t (and_t (and_t (and_t (and_t (and_t (and_t c0 c1) c2) c3) c4) c5) c6) c7) c8) c9) c10) c11) c12) c13) c14) c15) c16) c17) c18) c19) c20) c21) c22) c23) c24) c25) c26) c27) (by kernel_rfl)) c29) c30) c31
theorem named : Tryz.checked.prog.funcNamed Rows.fnExactUnlikeRow.func = some 3 := by kernel_rfl
theorem wrapper : Tryz.f3.isWrapper Tryz.checked.prog Rows.fnExactUnlikeRow.wrapper Rows.fnExactUnlikeRow.mainSum := by unfold Func.isWrapper; first | (rw [if_pos (by decide +kernel)]; kernel_rfl) | (rw [if_neg (by decide +kernel)]; exact ⟨rfl, rfl⟩)
theorem over : Rows.fnExactUnlikeRow.holds Tryz.pinned (OpenSpec.ofChange Rows.fnExactUnlikeSpec) :=
  OpenClaim.holds_of_wide 3 Tryz.f3 rfl rfl rfl rfl rfl rfl rfl ⟨rfl, rfl, rfl, rfl, rfl⟩ rfl rfl rfl rfl rfl named Tryz.func3 closed
    (of_decide_eq_true (by kernel_rfl)) wrapper
    (fun os started H enc _ => lifted os started H enc)
end Go.Proofs.YtcapkiofiipamaaGreat.fnExactUnlike

namespace Go.Proofs.YtcapkiofiipamaaGreat
/-- The row, under a short name, for the claim. -/
theorem fnExactUnlike_holds : Rows.FnExactUnlikeSaid := fnExactUnlike.over
end Go.Proofs.YtcapkiofiipamaaGreat
