/-
  Program's code interpreted over typed values; printed texts; plain laws. No conditions.
-/
import Derived.Test.YtiieddiheadocaaGreatTp
import Derived.Test.YtiieddiheadocaaGreatRows
set_option linter.unusedVariables false
namespace Go.Proofs.YtiieddiheadocaaGreat.fnExactTextStep
open Go Go.PI Go.PI.G Go.Proofs
theorem own:ownKnob Tryz.prog.godebug=none:=by kernel_rfl
theorem laidOut:laidOutB Tryz.prog=true:=by kernel_rfl
theorem run_eq (x0:ByteArray) (t0:List Tag) (k:List TVal->List TVal->List TVal->Res):j2q.run [⟨.str,false,x0,t0⟩] [] k=j39 x0 (λ(r0:Bool)=>k [⟨.bool,false,r0,[]⟩] [] []):=by kernel_rfl
theorem pure (vals:List TVal) (h:Z3I j2q.modes vals):j2q.run vals [] Z4V=some ():=by
 have hm:j2q.modes=[.borrow .str false]:=by kernel_rfl
 rw [hm] at h
 obtain ⟨x0,t0,vals,rfl,w0,h⟩:=Z3I.one h
 obtain rfl:=Z3I.none h
 exact (run_eq x0 t0 Z4V).trans ((jrG x0 w0 (λr0=>Z4V [⟨.bool,false,r0,[]⟩] [] [])).trans rfl)
set_option maxRecDepth 100000 in
theorem lifted (os:Os) (started:os.Started) (H:Type) (enc:TypeId×Value->H) :
  ReturnsInHanded {} Tryz.checked os 6 .any (Rows.fnExactTextStepSpec.pre6 enc Tryz.prog Tryz.f6 Rows.fnExactTextStepRow.domain false) (Rows.fnExactTextStepSpec.post enc Tryz.prog Tryz.f6 false true false false):=by
 refine returnsInHanded_of_change (C:=Tryz.checked) own started (by kernel_rfl) Tryz.func6
  (ChangeSpec.witness6 (enc:=enc) (C:=Tryz.checked) false ⟨#[],#[.string ⟨#[]⟩],[]⟩ 8 (by kernel_rfl) (by kernel_rfl) (by kernel_rfl) (by kernel_rfl)) ?_
 intro W base args ds gs before hval hW _ _
 exact Z8c j01 laidOut jfm (by kernel_rfl) (tb:=4) (by kernel_rfl) Tryz.underlying4 (by kernel_rfl) (by kernel_rfl) (λds h=>by
  match ds,h with
  | [d0],_=>rfl) pure hval hW
theorem and_t {a b:Bool} (ha:a=true) (hb:b=true):(a&&b)=true:=by rw [ha,hb];rfl
theorem c0:(Rows.fnExactTextStepRow.wf (OpenSpec.ofChange Rows.fnExactTextStepSpec))=true:=by kernel_rfl
theorem c1:(laidOutB Tryz.checked.prog)=true:=by kernel_rfl
theorem c2:(mapsRowed Tryz.checked.prog)=true:=by kernel_rfl
theorem c3:(Tryz.f6.params.all (Tryz.checked.prog.readableRec ·))=true:=by kernel_rfl
theorem c4:(namedTie Tryz.checked.prog Rows.fnExactTextStepRow.named Rows.fnExactTextStepSpec.vars)=true:=by kernel_rfl
theorem c5:(Rows.fnExactTextStepRow.stops==[])=true:=by kernel_rfl
theorem c6:(Tryz.checked.prog.stops==[])=true:=by kernel_rfl
theorem c7:(Rows.fnExactTextStepRow.knobs==[])=true:=by kernel_rfl
theorem c8:(Tryz.checked.prog.stopKnobs==[])=true:=by kernel_rfl
theorem c9:(Rows.fnExactTextStepRow.inPlace==Tryz.checked.prog.inPlace 6)=true:=by kernel_rfl
theorem c10:(Rows.fnExactTextStepRow.unfollowed==Tryz.checked.prog.unfollowed 6)=true:=by kernel_rfl
theorem c11:(Rows.fnExactTextStepRow.recurses==Tryz.checked.prog.recurses 6)=true:=by kernel_rfl
theorem c12:(Rows.fnExactTextStepRow.named==Tryz.checked.prog.varsNamed 6)=true:=by kernel_rfl
theorem c13:(Rows.fnExactTextStepRow.maps==(Tryz.f6.params.toList++Rows.fnExactTextStepSpec.plain.varTypes Tryz.checked.prog).any (Tryz.checked.prog.mapsRec ·))=true:=by kernel_rfl
theorem c14:(Rows.fnExactTextStepRow.ifaces==(Tryz.f6.params.toList++Rows.fnExactTextStepSpec.plain.varTypes Tryz.checked.prog).any (Tryz.checked.prog.ifacesRec ·))=true:=by kernel_rfl
theorem c15:(Rows.fnExactTextStepRow.mapsOut==Tryz.checked.prog.mapsAmong Tryz.f6.resultTypes.toList)=true:=by kernel_rfl
theorem c16:(Rows.fnExactTextStepRow.loops==(Tryz.f6.params.toList++Rows.fnExactTextStepSpec.plain.varTypes Tryz.checked.prog).any (Tryz.checked.prog.loopsFrom ·))=true:=by kernel_rfl
theorem c17:(Rows.fnExactTextStepRow.wideKeys==(Tryz.f6.params.toList++Rows.fnExactTextStepSpec.plain.varTypes Tryz.checked.prog++Tryz.f6.resultTypes.toList).any (Tryz.checked.prog.wideKeysFrom ·))=true:=by kernel_rfl
theorem c18:(Rows.fnExactTextStepSpec.vars.all (Tryz.checked.prog.varReadable ·))=true:=by kernel_rfl
theorem c19:(Tryz.f6.resultTypes.all (λt=>Tryz.checked.prog.readableRec t&&decide (t<Tryz.checked.prog.types.size)))=true:=by kernel_rfl
theorem c20:(Rows.fnExactTextStepRow.ifacesOut==Tryz.f6.resultTypes.toList.any (Tryz.checked.prog.ifacesRec ·))=true:=by kernel_rfl
theorem c21:(Rows.fnExactTextStepRow.loopsOut==Tryz.f6.resultTypes.toList.any (Tryz.checked.prog.loopsFrom ·))=true:=by kernel_rfl
theorem c22:(Rows.fnExactTextStepRow.plainKeys==Tryz.checked.prog.plainKeys)=true:=by kernel_rfl
theorem c23:(Rows.fnExactTextStepRow.shortTexts.isNone)=true:=by kernel_rfl
theorem c24:(Tryz.checked.prog.stopsHeard)=true:=by kernel_rfl
theorem c25:(Tryz.checked.prog.mayEnter)=true:=by kernel_rfl
theorem c26:(Rows.fnExactTextStepRow.lifted==Tryz.checked.prog.liftsFinal)=true:=by kernel_rfl
theorem c27:(Tryz.checked.prog.make==some Rows.fnExactTextStepRow.make)=true:=by kernel_rfl
theorem c29:(Rows.fnExactTextStepRow.pinned==Rows.fnExactTextStepRow.pinnedBy)=true:=by kernel_rfl
theorem c30:(Rows.fnExactTextStepRow.veiled==(Tryz.f6.params.toList++Rows.fnExactTextStepSpec.plain.varTypes Tryz.checked.prog++Tryz.f6.resultTypes.toList).any (Tryz.checked.prog.veiledRec ·))=true:=by kernel_rfl
theorem c31:(Rows.fnExactTextStepRow.veiledFits Tryz.checked.prog Tryz.f6.params.toList (Tryz.f6.params.toList++Rows.fnExactTextStepSpec.plain.varTypes Tryz.checked.prog++Tryz.f6.resultTypes.toList))=true:=by kernel_rfl
theorem closed:joinedFacts Tryz.checked.prog 6 Tryz.f6 Rows.fnExactTextStepSpec Rows.fnExactTextStepRow=true:=by
 unfold joinedFacts
 exact and_t (and_t (and_t (and_t (and_t (and_t (and_t (and_t (and_t (and_t (and_t (and_t (and_t (and_t (and_t (and_t (and_t (and_t (and_t (and_t (and_t (and_t (and_t (and_t (and_t (and_t (and_t (and_t (and_t (and_t (and_t c0 c1) c2) c3) c4) c5) c6) c7) c8) c9) c10) c11) c12) c13) c14) c15) c16) c17) c18) c19) c20) c21) c22) c23) c24) c25) c26) c27) (by kernel_rfl)) c29) c30) c31
theorem named:Tryz.checked.prog.funcNamed Rows.fnExactTextStepRow.func=some 6:=by kernel_rfl
theorem wrapper:Tryz.f6.isWrapper Tryz.checked.prog Rows.fnExactTextStepRow.wrapper Rows.fnExactTextStepRow.mainSum:=by unfold Func.isWrapper;first | (rw [if_pos (by decide +kernel)];kernel_rfl) | (rw [if_neg (by decide +kernel)];exact ⟨rfl,rfl⟩)
theorem over:Rows.fnExactTextStepRow.holds Tryz.pinned (OpenSpec.ofChange Rows.fnExactTextStepSpec):=
 OpenClaim.holds_of_wide 6 Tryz.f6 rfl rfl rfl rfl rfl rfl rfl ⟨rfl,rfl,rfl,rfl,rfl⟩ rfl rfl rfl rfl rfl named Tryz.func6 closed
  (of_decide_eq_true (by kernel_rfl)) wrapper
  (λos started H enc _=>lifted os started H enc)
end Go.Proofs.YtiieddiheadocaaGreat.fnExactTextStep
namespace Go.Proofs.YtiieddiheadocaaGreat
theorem fnExactTextStep_holds:Rows.FnExactTextStepSaid:=fnExactTextStep.over
end Go.Proofs.YtiieddiheadocaaGreat
