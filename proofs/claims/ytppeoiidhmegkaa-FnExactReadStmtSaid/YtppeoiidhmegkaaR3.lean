/-
  Program's code interpreted over typed values; printed texts; plain laws. No conditions.
-/
import Derived.Test.YtppeoiidhmegkaaQf
import Derived.Test.YtppeoiidhmegkaaRows
set_option linter.unusedVariables false
namespace Go.Proofs.Ytppeoiidhmegkaa.fnExactReadStmt
open Go Go.PI Go.PI.G Go.Proofs
theorem own:ownKnob Try.prog.godebug=none:=by kernel_rfl
theorem laidOut:laidOutB Try.prog=true:=by kernel_rfl
theorem run_eq (x0:List Int) (t0:List Tag) (k:List TVal->List TVal->List TVal->Res):j0O.run [⟨(.slice (.int .u8)),false,x0,t0⟩] [] k=j14 x0 (λ(r0:Bool)=>k [⟨.bool,false,r0,[]⟩] [] []):=by kernel_rfl
theorem pure (vals:List TVal) (h:Z3P j0O.modes vals):j0O.run vals [] Z53=some ():=by
 have hm:j0O.modes=[.borrow (.slice (.int .u8)) false]:=by kernel_rfl
 rw [hm] at h
 obtain ⟨x0,t0,vals,rfl,w0,h⟩:=Z3P.one h
 obtain rfl:=Z3P.none h
 exact (run_eq x0 t0 Z53).trans ((jbY x0 w0 (λr0=>Z53 [⟨.bool,false,r0,[]⟩] [] [])).trans rfl)
set_option maxRecDepth 100000 in
theorem lifted (os:Os) (started:os.Started) (H:Type) (enc:TypeId×Value->H) :
  ReturnsInHanded {} Try.checked os 3 .any (Rows.fnExactReadStmtSpec.pre6 enc Try.prog Try.f3 Rows.fnExactReadStmtRow.domain false) (Rows.fnExactReadStmtSpec.post enc Try.prog Try.f3 false true false false):=by
 refine returnsInHanded_of_change (C:=Try.checked) own started (by kernel_rfl) Try.func3
  (ChangeSpec.witness6 (enc:=enc) (C:=Try.checked) false ⟨#[],#[.slice none 0 0],[]⟩ 8 (by kernel_rfl) (by kernel_rfl) (by kernel_rfl) (by kernel_rfl)) ?_
 intro W base args ds gs before hval hW _ _
 exact Z8k j01 laidOut j7t (by kernel_rfl) (tb:=4) (by kernel_rfl) Try.underlying4 (by kernel_rfl) (by kernel_rfl) (λds h=>by
  match ds,h with
  | [d0],_=>rfl) pure hval hW
theorem and_t {a b:Bool} (ha:a=true) (hb:b=true):(a&&b)=true:=by rw [ha,hb];rfl
theorem c0:(Rows.fnExactReadStmtRow.wf (OpenSpec.ofChange Rows.fnExactReadStmtSpec))=true:=by kernel_rfl
theorem c1:(laidOutB Try.checked.prog)=true:=by kernel_rfl
theorem c2:(mapsRowed Try.checked.prog)=true:=by kernel_rfl
theorem c3:(Try.f3.params.all (Try.checked.prog.readableRec ·))=true:=by kernel_rfl
theorem c4:(namedTie Try.checked.prog Rows.fnExactReadStmtRow.named Rows.fnExactReadStmtSpec.vars)=true:=by kernel_rfl
theorem c5:(Rows.fnExactReadStmtRow.stops==[])=true:=by kernel_rfl
theorem c6:(Try.checked.prog.stops==[])=true:=by kernel_rfl
theorem c7:(Rows.fnExactReadStmtRow.knobs==[])=true:=by kernel_rfl
theorem c8:(Try.checked.prog.stopKnobs==[])=true:=by kernel_rfl
theorem c9:(Rows.fnExactReadStmtRow.inPlace==Try.checked.prog.inPlace 3)=true:=by kernel_rfl
theorem c10:(Rows.fnExactReadStmtRow.unfollowed==Try.checked.prog.unfollowed 3)=true:=by kernel_rfl
theorem c11:(Rows.fnExactReadStmtRow.recurses==Try.checked.prog.recurses 3)=true:=by kernel_rfl
theorem c12:(Rows.fnExactReadStmtRow.named==Try.checked.prog.varsNamed 3)=true:=by kernel_rfl
theorem c13:(Rows.fnExactReadStmtRow.maps==(Try.f3.params.toList++Rows.fnExactReadStmtSpec.plain.varTypes Try.checked.prog).any (Try.checked.prog.mapsRec ·))=true:=by kernel_rfl
theorem c14:(Rows.fnExactReadStmtRow.ifaces==(Try.f3.params.toList++Rows.fnExactReadStmtSpec.plain.varTypes Try.checked.prog).any (Try.checked.prog.ifacesRec ·))=true:=by kernel_rfl
theorem c15:(Rows.fnExactReadStmtRow.mapsOut==Try.checked.prog.mapsAmong Try.f3.resultTypes.toList)=true:=by kernel_rfl
theorem c16:(Rows.fnExactReadStmtRow.loops==(Try.f3.params.toList++Rows.fnExactReadStmtSpec.plain.varTypes Try.checked.prog).any (Try.checked.prog.loopsFrom ·))=true:=by kernel_rfl
theorem c17:(Rows.fnExactReadStmtRow.wideKeys==(Try.f3.params.toList++Rows.fnExactReadStmtSpec.plain.varTypes Try.checked.prog++Try.f3.resultTypes.toList).any (Try.checked.prog.wideKeysFrom ·))=true:=by kernel_rfl
theorem c18:(Rows.fnExactReadStmtSpec.vars.all (Try.checked.prog.varReadable ·))=true:=by kernel_rfl
theorem c19:(Try.f3.resultTypes.all (λt=>Try.checked.prog.readableRec t&&decide (t<Try.checked.prog.types.size)))=true:=by kernel_rfl
theorem c20:(Rows.fnExactReadStmtRow.ifacesOut==Try.f3.resultTypes.toList.any (Try.checked.prog.ifacesRec ·))=true:=by kernel_rfl
theorem c21:(Rows.fnExactReadStmtRow.loopsOut==Try.f3.resultTypes.toList.any (Try.checked.prog.loopsFrom ·))=true:=by kernel_rfl
theorem c22:(Rows.fnExactReadStmtRow.plainKeys==Try.checked.prog.plainKeys)=true:=by kernel_rfl
theorem c23:(Rows.fnExactReadStmtRow.shortTexts.isNone)=true:=by kernel_rfl
theorem c24:(Try.checked.prog.stopsHeard)=true:=by kernel_rfl
theorem c25:(Try.checked.prog.mayEnter)=true:=by kernel_rfl
theorem c26:(Rows.fnExactReadStmtRow.lifted==Try.checked.prog.liftsFinal)=true:=by kernel_rfl
theorem c27:(Try.checked.prog.make==some Rows.fnExactReadStmtRow.make)=true:=by kernel_rfl
theorem c29:(Rows.fnExactReadStmtRow.pinned==Rows.fnExactReadStmtRow.pinnedBy)=true:=by kernel_rfl
theorem c30:(Rows.fnExactReadStmtRow.veiled==(Try.f3.params.toList++Rows.fnExactReadStmtSpec.plain.varTypes Try.checked.prog++Try.f3.resultTypes.toList).any (Try.checked.prog.veiledRec ·))=true:=by kernel_rfl
theorem c31:(Rows.fnExactReadStmtRow.veiledFits Try.checked.prog Try.f3.params.toList (Try.f3.params.toList++Rows.fnExactReadStmtSpec.plain.varTypes Try.checked.prog++Try.f3.resultTypes.toList))=true:=by kernel_rfl
theorem closed:joinedFacts Try.checked.prog 3 Try.f3 Rows.fnExactReadStmtSpec Rows.fnExactReadStmtRow=true:=by
 unfold joinedFacts
 exact and_t (and_t (and_t (and_t (and_t (and_t (and_t (and_t (and_t (and_t (and_t (and_t (and_t (and_t (and_t (and_t (and_t (and_t (and_t (and_t (and_t (and_t (and_t (and_t (and_t (and_t (and_t (and_t (and_t (and_t (and_t c0 c1) c2) c3) c4) c5) c6) c7) c8) c9) c10) c11) c12) c13) c14) c15) c16) c17) c18) c19) c20) c21) c22) c23) c24) c25) c26) c27) (by kernel_rfl)) c29) c30) c31
theorem named:Try.checked.prog.funcNamed Rows.fnExactReadStmtRow.func=some 3:=by kernel_rfl
theorem wrapper:Try.f3.isWrapper Try.checked.prog Rows.fnExactReadStmtRow.wrapper Rows.fnExactReadStmtRow.mainSum:=by unfold Func.isWrapper;first | (rw [if_pos (by decide +kernel)];kernel_rfl) | (rw [if_neg (by decide +kernel)];exact ⟨rfl,rfl⟩)
theorem over:Rows.fnExactReadStmtRow.holds Try.pinned (OpenSpec.ofChange Rows.fnExactReadStmtSpec):=
 OpenClaim.holds_of_wide 3 Try.f3 rfl rfl rfl rfl rfl rfl rfl ⟨rfl,rfl,rfl,rfl,rfl⟩ rfl rfl rfl rfl rfl named Try.func3 closed
  (of_decide_eq_true (by kernel_rfl)) wrapper
  (λos started H enc _=>lifted os started H enc)
end Go.Proofs.Ytppeoiidhmegkaa.fnExactReadStmt
namespace Go.Proofs.Ytppeoiidhmegkaa
theorem fnExactReadStmt_holds:Rows.FnExactReadStmtSaid:=fnExactReadStmt.over
end Go.Proofs.Ytppeoiidhmegkaa
