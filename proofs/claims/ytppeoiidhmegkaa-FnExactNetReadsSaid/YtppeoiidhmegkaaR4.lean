/-
  Program's code interpreted over typed values; printed texts; plain laws. No conditions.
-/
import Derived.Test.YtppeoiidhmegkaaNg
import Derived.Test.YtppeoiidhmegkaaRows
set_option linter.unusedVariables false
namespace Go.Proofs.Ytppeoiidhmegkaa.fnExactNetReads
open Go Go.PI Go.PI.G Go.Proofs
theorem own:ownKnob Try.prog.godebug=none:=by kernel_rfl
theorem laidOut:laidOutB Try.prog=true:=by kernel_rfl
theorem run_eq (x0:List (List Int)) (t0:List Tag) (k:List TVal->List TVal->List TVal->Res):j0L.run [⟨(.slice (.slice (.int .u8))),true,x0,t0⟩] [] k=j14 x0 (λ(r0:Bool)=>k [⟨.bool,false,r0,[]⟩] [] []):=by kernel_rfl
theorem pure (vals:List TVal) (h:Z3P j0L.modes vals):j0L.run vals [] Z53=some ():=by
 have hm:j0L.modes=[.borrow (.slice (.slice (.int .u8))) true]:=by kernel_rfl
 rw [hm] at h
 obtain ⟨x0,t0,vals,rfl,w0,h⟩:=Z3P.one h
 obtain rfl:=Z3P.none h
 exact (run_eq x0 t0 Z53).trans ((jel x0 w0 (λr0=>Z53 [⟨.bool,false,r0,[]⟩] [] [])).trans rfl)
set_option maxRecDepth 100000 in
theorem lifted (os:Os) (started:os.Started) (H:Type) (enc:TypeId×Value->H) :
  ReturnsInHanded {} Try.checked os 4 .any (Rows.fnExactNetReadsSpec.pre6 enc Try.prog Try.f4 Rows.fnExactNetReadsRow.domain false) (Rows.fnExactNetReadsSpec.post enc Try.prog Try.f4 false true false false):=by
 refine returnsInHanded_of_change (C:=Try.checked) own started (by kernel_rfl) Try.func4
  (ChangeSpec.witness6 (enc:=enc) (C:=Try.checked) false ⟨#[],#[.agg #[.slice none 0 0]],[]⟩ 8 (by kernel_rfl) (by kernel_rfl) (by kernel_rfl) (by kernel_rfl)) ?_
 intro W base args ds gs before hval hW _ _
 exact Z8k j01 laidOut j8F (by kernel_rfl) (tb:=4) (by kernel_rfl) Try.underlying4 (by kernel_rfl) (by kernel_rfl) (λds h=>by
  match ds,h with
  | [d0],_=>rfl) pure hval hW
theorem and_t {a b:Bool} (ha:a=true) (hb:b=true):(a&&b)=true:=by rw [ha,hb];rfl
theorem c0:(Rows.fnExactNetReadsRow.wf (OpenSpec.ofChange Rows.fnExactNetReadsSpec))=true:=by kernel_rfl
theorem c1:(laidOutB Try.checked.prog)=true:=by kernel_rfl
theorem c2:(mapsRowed Try.checked.prog)=true:=by kernel_rfl
theorem c3:(Try.f4.params.all (Try.checked.prog.readableRec ·))=true:=by kernel_rfl
theorem c4:(namedTie Try.checked.prog Rows.fnExactNetReadsRow.named Rows.fnExactNetReadsSpec.vars)=true:=by kernel_rfl
theorem c5:(Rows.fnExactNetReadsRow.stops==[])=true:=by kernel_rfl
theorem c6:(Try.checked.prog.stops==[])=true:=by kernel_rfl
theorem c7:(Rows.fnExactNetReadsRow.knobs==[])=true:=by kernel_rfl
theorem c8:(Try.checked.prog.stopKnobs==[])=true:=by kernel_rfl
theorem c9:(Rows.fnExactNetReadsRow.inPlace==Try.checked.prog.inPlace 4)=true:=by kernel_rfl
theorem c10:(Rows.fnExactNetReadsRow.unfollowed==Try.checked.prog.unfollowed 4)=true:=by kernel_rfl
theorem c11:(Rows.fnExactNetReadsRow.recurses==Try.checked.prog.recurses 4)=true:=by kernel_rfl
theorem c12:(Rows.fnExactNetReadsRow.named==Try.checked.prog.varsNamed 4)=true:=by kernel_rfl
theorem c13:(Rows.fnExactNetReadsRow.maps==(Try.f4.params.toList++Rows.fnExactNetReadsSpec.plain.varTypes Try.checked.prog).any (Try.checked.prog.mapsRec ·))=true:=by kernel_rfl
theorem c14:(Rows.fnExactNetReadsRow.ifaces==(Try.f4.params.toList++Rows.fnExactNetReadsSpec.plain.varTypes Try.checked.prog).any (Try.checked.prog.ifacesRec ·))=true:=by kernel_rfl
theorem c15:(Rows.fnExactNetReadsRow.mapsOut==Try.checked.prog.mapsAmong Try.f4.resultTypes.toList)=true:=by kernel_rfl
theorem c16:(Rows.fnExactNetReadsRow.loops==(Try.f4.params.toList++Rows.fnExactNetReadsSpec.plain.varTypes Try.checked.prog).any (Try.checked.prog.loopsFrom ·))=true:=by kernel_rfl
theorem c17:(Rows.fnExactNetReadsRow.wideKeys==(Try.f4.params.toList++Rows.fnExactNetReadsSpec.plain.varTypes Try.checked.prog++Try.f4.resultTypes.toList).any (Try.checked.prog.wideKeysFrom ·))=true:=by kernel_rfl
theorem c18:(Rows.fnExactNetReadsSpec.vars.all (Try.checked.prog.varReadable ·))=true:=by kernel_rfl
theorem c19:(Try.f4.resultTypes.all (λt=>Try.checked.prog.readableRec t&&decide (t<Try.checked.prog.types.size)))=true:=by kernel_rfl
theorem c20:(Rows.fnExactNetReadsRow.ifacesOut==Try.f4.resultTypes.toList.any (Try.checked.prog.ifacesRec ·))=true:=by kernel_rfl
theorem c21:(Rows.fnExactNetReadsRow.loopsOut==Try.f4.resultTypes.toList.any (Try.checked.prog.loopsFrom ·))=true:=by kernel_rfl
theorem c22:(Rows.fnExactNetReadsRow.plainKeys==Try.checked.prog.plainKeys)=true:=by kernel_rfl
theorem c23:(Rows.fnExactNetReadsRow.shortTexts.isNone)=true:=by kernel_rfl
theorem c24:(Try.checked.prog.stopsHeard)=true:=by kernel_rfl
theorem c25:(Try.checked.prog.mayEnter)=true:=by kernel_rfl
theorem c26:(Rows.fnExactNetReadsRow.lifted==Try.checked.prog.liftsFinal)=true:=by kernel_rfl
theorem c27:(Try.checked.prog.make==some Rows.fnExactNetReadsRow.make)=true:=by kernel_rfl
theorem c29:(Rows.fnExactNetReadsRow.pinned==Rows.fnExactNetReadsRow.pinnedBy)=true:=by kernel_rfl
theorem c30:(Rows.fnExactNetReadsRow.veiled==(Try.f4.params.toList++Rows.fnExactNetReadsSpec.plain.varTypes Try.checked.prog++Try.f4.resultTypes.toList).any (Try.checked.prog.veiledRec ·))=true:=by kernel_rfl
theorem c31:(Rows.fnExactNetReadsRow.veiledFits Try.checked.prog Try.f4.params.toList (Try.f4.params.toList++Rows.fnExactNetReadsSpec.plain.varTypes Try.checked.prog++Try.f4.resultTypes.toList))=true:=by kernel_rfl
theorem closed:joinedFacts Try.checked.prog 4 Try.f4 Rows.fnExactNetReadsSpec Rows.fnExactNetReadsRow=true:=by
 unfold joinedFacts
 exact and_t (and_t (and_t (and_t (and_t (and_t (and_t (and_t (and_t (and_t (and_t (and_t (and_t (and_t (and_t (and_t (and_t (and_t (and_t (and_t (and_t (and_t (and_t (and_t (and_t (and_t (and_t (and_t (and_t (and_t (and_t c0 c1) c2) c3) c4) c5) c6) c7) c8) c9) c10) c11) c12) c13) c14) c15) c16) c17) c18) c19) c20) c21) c22) c23) c24) c25) c26) c27) (by kernel_rfl)) c29) c30) c31
theorem named:Try.checked.prog.funcNamed Rows.fnExactNetReadsRow.func=some 4:=by kernel_rfl
theorem wrapper:Try.f4.isWrapper Try.checked.prog Rows.fnExactNetReadsRow.wrapper Rows.fnExactNetReadsRow.mainSum:=by unfold Func.isWrapper;first | (rw [if_pos (by decide +kernel)];kernel_rfl) | (rw [if_neg (by decide +kernel)];exact ⟨rfl,rfl⟩)
theorem over:Rows.fnExactNetReadsRow.holds Try.pinned (OpenSpec.ofChange Rows.fnExactNetReadsSpec):=
 OpenClaim.holds_of_wide 4 Try.f4 rfl rfl rfl rfl rfl rfl rfl ⟨rfl,rfl,rfl,rfl,rfl⟩ rfl rfl rfl rfl rfl named Try.func4 closed
  (of_decide_eq_true (by kernel_rfl)) wrapper
  (λos started H enc _=>lifted os started H enc)
end Go.Proofs.Ytppeoiidhmegkaa.fnExactNetReads
namespace Go.Proofs.Ytppeoiidhmegkaa
theorem fnExactNetReads_holds:Rows.FnExactNetReadsSaid:=fnExactNetReads.over
end Go.Proofs.Ytppeoiidhmegkaa
