/-
  The law FnExactRowsMend answers true at every input. No conditions.
-/
import Derived.Test.YtcapkiofiipamaaGRNXRowsMend
import Derived.Test.YtcapkiofiipamaaRows
set_option linter.unusedVariables false
namespace Go.Proofs.Ytcapkiofiipamaa.fnExactRowsMend
open Go Go.PI Go.PI.G Go.Proofs

theorem own : ownKnob Try.prog.godebug = none := by kernel_rfl
theorem laidOut : laidOutB Try.prog = true := by kernel_rfl

theorem run_eq (x0 : ByteArray × (List (ByteArray × Int × Bool × Bool × Int × Int × ByteArray)) × List ByteArray) (t0 : List Tag) (x1 : List (List (Int × Int × ByteArray))) (t1 : List Tag) (x2 : List (List (Int × Int × ByteArray))) (t2 : List Tag) (k : List TVal → List TVal → List TVal → Res) : s_laws_FnExactRowsMend.run [⟨(.pair .str (.pair (.slice (.pair .str (.pair (.int .i64) (.pair .bool (.pair .bool (.pair (.int .i64) (.pair (.int .i64) .str))))))) (.slice .str))), true, x0, t0⟩, ⟨(.slice (.slice (.pair (.int .i64) (.pair (.int .i64) .str)))), false, x1, t1⟩, ⟨(.slice (.slice (.pair (.int .i64) (.pair (.int .i64) .str)))), false, x2, t2⟩] [] k = laws_FnExactRowsMend x0 x1 x2 (fun (r0 : Bool) => k [⟨.bool, false, r0, []⟩] [] []) := by kernel_rfl

theorem pure (vals : List TVal) (h : Vals s_laws_FnExactRowsMend.modes vals) : s_laws_FnExactRowsMend.run vals [] kTrue = some () := by
  have hm : s_laws_FnExactRowsMend.modes = [.borrow (.pair .str (.pair (.slice (.pair .str (.pair (.int .i64) (.pair .bool (.pair .bool (.pair (.int .i64) (.pair (.int .i64) .str))))))) (.slice .str))) true, .borrow (.slice (.slice (.pair (.int .i64) (.pair (.int .i64) .str)))) false, .borrow (.slice (.slice (.pair (.int .i64) (.pair (.int .i64) .str)))) false] := by kernel_rfl
  rw [hm] at h
  obtain ⟨x0, t0, vals, rfl, w0, h⟩ := Vals.one h
  obtain ⟨x1, t1, vals, rfl, w1, h⟩ := Vals.one h
  obtain ⟨x2, t2, vals, rfl, w2, h⟩ := Vals.one h
  obtain rfl := Vals.none h
  exact (run_eq x0 t0 x1 t1 x2 t2 kTrue).trans ((row_FnExactRowsMend x0 w0 x1 w1 x2 w2 (fun r0 => kTrue [⟨.bool, false, r0, []⟩] [] [])).trans rfl)

set_option maxRecDepth 100000 in
theorem lifted (os : Os) (started : os.Started) (H : Type) (enc : TypeId × Value → H) :
    ReturnsInHanded {} Try.checked os 6 .any (Rows.fnExactRowsMendSpec.pre6 enc Try.prog Try.f6 Rows.fnExactRowsMendRow.domain false) (Rows.fnExactRowsMendSpec.post enc Try.prog Try.f6 false true false false) := by
  refine returnsInHanded_of_change (C := Try.checked) own started (by kernel_rfl) Try.func6
    (ChangeSpec.witness6 (enc := enc) (C := Try.checked) false ⟨#[], #[.agg #[.string ⟨#[]⟩, .slice none 0 0, .slice none 0 0], .slice none 0 0, .slice none 0 0], []⟩ 8 (by kernel_rfl) (by kernel_rfl) (by kernel_rfl) (by kernel_rfl)) ?_
  intro W base args ds gs before hval hW _ _
  exact law_contract tysOk laidOut S_laws_FnExactRowsMend (by kernel_rfl) (tb := 4) (by kernel_rfl) Try.underlying4 (by kernel_rfl) (by kernel_rfl) (fun ds h => by
    match ds, h with
    | [d0, d1, d2], _ => rfl) pure hval hW

theorem and_t {a b : Bool} (ha : a = true) (hb : b = true) : (a && b) = true := by rw [ha, hb]; rfl
theorem c0 : (Rows.fnExactRowsMendRow.wf (OpenSpec.ofChange Rows.fnExactRowsMendSpec)) = true := by kernel_rfl
theorem c1 : (laidOutB Try.checked.prog) = true := by kernel_rfl
theorem c2 : (mapsRowed Try.checked.prog) = true := by kernel_rfl
theorem c3 : (Try.f6.params.all (Try.checked.prog.readableRec ·)) = true := by kernel_rfl
theorem c4 : (namedTie Try.checked.prog Rows.fnExactRowsMendRow.named Rows.fnExactRowsMendSpec.vars) = true := by kernel_rfl
theorem c5 : (Rows.fnExactRowsMendRow.stops == []) = true := by kernel_rfl
theorem c6 : (Try.checked.prog.stops == []) = true := by kernel_rfl
theorem c7 : (Rows.fnExactRowsMendRow.knobs == []) = true := by kernel_rfl
theorem c8 : (Try.checked.prog.stopKnobs == []) = true := by kernel_rfl
theorem c9 : (Rows.fnExactRowsMendRow.inPlace == Try.checked.prog.inPlace 6) = true := by kernel_rfl
theorem c10 : (Rows.fnExactRowsMendRow.unfollowed == Try.checked.prog.unfollowed 6) = true := by kernel_rfl
theorem c11 : (Rows.fnExactRowsMendRow.recurses == Try.checked.prog.recurses 6) = true := by kernel_rfl
theorem c12 : (Rows.fnExactRowsMendRow.named == Try.checked.prog.varsNamed 6) = true := by kernel_rfl
theorem c13 : (Rows.fnExactRowsMendRow.maps == (Try.f6.params.toList ++ Rows.fnExactRowsMendSpec.plain.varTypes Try.checked.prog).any (Try.checked.prog.mapsRec ·)) = true := by kernel_rfl
theorem c14 : (Rows.fnExactRowsMendRow.ifaces == (Try.f6.params.toList ++ Rows.fnExactRowsMendSpec.plain.varTypes Try.checked.prog).any (Try.checked.prog.ifacesRec ·)) = true := by kernel_rfl
theorem c15 : (Rows.fnExactRowsMendRow.mapsOut == Try.checked.prog.mapsAmong Try.f6.resultTypes.toList) = true := by kernel_rfl
theorem c16 : (Rows.fnExactRowsMendRow.loops == (Try.f6.params.toList ++ Rows.fnExactRowsMendSpec.plain.varTypes Try.checked.prog).any (Try.checked.prog.loopsFrom ·)) = true := by kernel_rfl
theorem c17 : (Rows.fnExactRowsMendRow.wideKeys == (Try.f6.params.toList ++ Rows.fnExactRowsMendSpec.plain.varTypes Try.checked.prog ++ Try.f6.resultTypes.toList).any (Try.checked.prog.wideKeysFrom ·)) = true := by kernel_rfl
theorem c18 : (Rows.fnExactRowsMendSpec.vars.all (Try.checked.prog.varReadable ·)) = true := by kernel_rfl
theorem c19 : (Try.f6.resultTypes.all (fun t => Try.checked.prog.readableRec t && decide (t < Try.checked.prog.types.size))) = true := by kernel_rfl
theorem c20 : (Rows.fnExactRowsMendRow.ifacesOut == Try.f6.resultTypes.toList.any (Try.checked.prog.ifacesRec ·)) = true := by kernel_rfl
theorem c21 : (Rows.fnExactRowsMendRow.loopsOut == Try.f6.resultTypes.toList.any (Try.checked.prog.loopsFrom ·)) = true := by kernel_rfl
theorem c22 : (Rows.fnExactRowsMendRow.plainKeys == Try.checked.prog.plainKeys) = true := by kernel_rfl
theorem c23 : (Rows.fnExactRowsMendRow.shortTexts.isNone) = true := by kernel_rfl
theorem c24 : (Try.checked.prog.stopsHeard) = true := by kernel_rfl
theorem c25 : (Try.checked.prog.mayEnter) = true := by kernel_rfl
theorem c26 : (Rows.fnExactRowsMendRow.lifted == Try.checked.prog.liftsFinal) = true := by kernel_rfl
theorem c27 : (Try.checked.prog.make == some Rows.fnExactRowsMendRow.make) = true := by kernel_rfl
theorem c29 : (Rows.fnExactRowsMendRow.pinned == Rows.fnExactRowsMendRow.pinnedBy) = true := by kernel_rfl
theorem c30 : (Rows.fnExactRowsMendRow.veiled == (Try.f6.params.toList ++ Rows.fnExactRowsMendSpec.plain.varTypes Try.checked.prog ++ Try.f6.resultTypes.toList).any (Try.checked.prog.veiledRec ·)) = true := by kernel_rfl
theorem c31 : (Rows.fnExactRowsMendRow.veiledFits Try.checked.prog Try.f6.params.toList (Try.f6.params.toList ++ Rows.fnExactRowsMendSpec.plain.varTypes Try.checked.prog ++ Try.f6.resultTypes.toList)) = true := by kernel_rfl
theorem closed : joinedFacts Try.checked.prog 6 Try.f6 Rows.fnExactRowsMendSpec Rows.fnExactRowsMendRow = true := by
  unfold joinedFacts
  exact and_t (and_t (and_t (and_t (and_t (and_t (and_t (and_t (and_t (and_t (and_t (and_t (and_t (and_t (and_t (and_t (and_t (and_t (and_t (and_t (and_t (and_t (and_t (and_t (and_t (and_t (and_t (and_t (and_t (and_t (and_t c0 c1) c2) c3) c4) c5) c6) c7) c8) c9) c10) c11) c12) c13) c14) c15) c16) c17) c18) c19) c20) c21) c22) c23) c24) c25) c26) c27) (by kernel_rfl)) c29) c30) c31
theorem named : Try.checked.prog.funcNamed Rows.fnExactRowsMendRow.func = some 6 := by kernel_rfl
theorem wrapper : Try.f6.isWrapper Try.checked.prog Rows.fnExactRowsMendRow.wrapper Rows.fnExactRowsMendRow.mainSum := by unfold Func.isWrapper; first | (rw [if_pos (by decide +kernel)]; kernel_rfl) | (rw [if_neg (by decide +kernel)]; exact ⟨rfl, rfl⟩)
theorem over : Rows.fnExactRowsMendRow.holds Try.pinned (OpenSpec.ofChange Rows.fnExactRowsMendSpec) :=
  OpenClaim.holds_of_wide 6 Try.f6 rfl rfl rfl rfl rfl rfl rfl ⟨rfl, rfl, rfl, rfl, rfl⟩ rfl rfl rfl rfl rfl named Try.func6 closed
    (of_decide_eq_true (by kernel_rfl)) wrapper
    (fun os started H enc _ => lifted os started H enc)
end Go.Proofs.Ytcapkiofiipamaa.fnExactRowsMend

namespace Go.Proofs.Ytcapkiofiipamaa
/-- The row, under a short name, for the claim. -/
theorem fnExactRowsMend_holds : Rows.FnExactRowsMendSaid := fnExactRowsMend.over
end Go.Proofs.Ytcapkiofiipamaa
