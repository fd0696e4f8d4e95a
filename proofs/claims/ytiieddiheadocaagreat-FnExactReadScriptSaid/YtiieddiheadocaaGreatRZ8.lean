/-
  Program's code interpreted over typed values; printed texts; plain laws. No conditions.
-/
import Derived.Test.YtiieddiheadocaaGreatUp
import Derived.Test.YtiieddiheadocaaGreatRows
set_option linter.unusedVariables false
namespace Go.Proofs.YtiieddiheadocaaGreat.fnExactReadScript
open Go Go.PI Go.PI.G Go.Proofs
theorem own:ownKnob Tryz.prog.godebug=none:=by kernel_rfl
theorem laidOut:laidOutB Tryz.prog=true:=by kernel_rfl
theorem run_eq (x0:ByteArray) (t0:List Tag) (k:List TVal->List TVal->List TVal->Res):j2b.run [⟨.str,false,x0,t0⟩] [] k=j2z x0 (λ(r0:Bool)=>k [⟨.bool,false,r0,[]⟩] [] []):=by kernel_rfl
theorem pure (vals:List TVal) (h:Z3I j2b.modes vals):j2b.run vals [] Z4V=some ():=by
 have hm:j2b.modes=[.borrow .str false]:=by kernel_rfl
 rw [hm] at h
 obtain ⟨x0,t0,vals,rfl,w0,h⟩:=Z3I.one h
 obtain rfl:=Z3I.none h
 exact (run_eq x0 t0 Z4V).trans ((jrD x0 w0 (λr0=>Z4V [⟨.bool,false,r0,[]⟩] [] [])).trans rfl)
set_option maxRecDepth 100000 in
theorem lifted (os:Os) (started:os.Started) (H:Type) (enc:TypeId×Value->H) :
  ReturnsInHanded {} Tryz.checked os 8 .any (Rows.fnExactReadScriptSpec.pre6 enc Tryz.prog Tryz.f8 Rows.fnExactReadScriptRow.domain false) (Rows.fnExactReadScriptSpec.post enc Tryz.prog Tryz.f8 false true false false):=by
 refine returnsInHanded_of_change (C:=Tryz.checked) own started (by kernel_rfl) Tryz.func8
  (ChangeSpec.witness6 (enc:=enc) (C:=Tryz.checked) false ⟨#[],#[.string ⟨#[]⟩],[]⟩ 8 (by kernel_rfl) (by kernel_rfl) (by kernel_rfl) (by kernel_rfl)) ?_
 intro W base args ds gs before hval hW _ _
 exact Z8c j00 laidOut jeB (by kernel_rfl) (tb:=4) (by kernel_rfl) Tryz.underlying4 (by kernel_rfl) (by kernel_rfl) (λds h=>by
  match ds,h with
  | [d0],_=>rfl) pure hval hW
theorem and_t {a b:Bool} (ha:a=true) (hb:b=true):(a&&b)=true:=by rw [ha,hb];rfl
theorem c0:(Rows.fnExactReadScriptRow.wf (OpenSpec.ofChange Rows.fnExactReadScriptSpec))=true:=by kernel_rfl
theorem c1:(laidOutB Tryz.checked.prog)=true:=by kernel_rfl
theorem c2:(mapsRowed Tryz.checked.prog)=true:=by kernel_rfl
theorem c3:(Tryz.f8.params.all (Tryz.checked.prog.readableRec ·))=true:=by kernel_rfl
theorem c4:(namedTie Tryz.checked.prog Rows.fnExactReadScriptRow.named Rows.fnExactReadScriptSpec.vars)=true:=by kernel_rfl
theorem c5:(Rows.fnExactReadScriptRow.stops==[])=true:=by kernel_rfl
theorem c6:(Tryz.checked.prog.stops==[])=true:=by kernel_rfl
theorem c7:(Rows.fnExactReadScriptRow.knobs==[])=true:=by kernel_rfl
theorem c8:(Tryz.checked.prog.stopKnobs==[])=true:=by kernel_rfl
theorem c9:(Rows.fnExactReadScriptRow.inPlace==Tryz.checked.prog.inPlace 8)=true:=by kernel_rfl
theorem c10:(Rows.fnExactReadScriptRow.unfollowed==Tryz.checked.prog.unfollowed 8)=true:=by kernel_rfl
theorem c11:(Rows.fnExactReadScriptRow.recurses==Tryz.checked.prog.recurses 8)=true:=by kernel_rfl
theorem c12:(Rows.fnExactReadScriptRow.named==Tryz.checked.prog.varsNamed 8)=true:=by kernel_rfl
theorem c13:(Rows.fnExactReadScriptRow.maps==(Tryz.f8.params.toList++Rows.fnExactReadScriptSpec.plain.varTypes Tryz.checked.prog).any (Tryz.checked.prog.mapsRec ·))=true:=by kernel_rfl
theorem c14:(Rows.fnExactReadScriptRow.ifaces==(Tryz.f8.params.toList++Rows.fnExactReadScriptSpec.plain.varTypes Tryz.checked.prog).any (Tryz.checked.prog.ifacesRec ·))=true:=by kernel_rfl
theorem c15:(Rows.fnExactReadScriptRow.mapsOut==Tryz.checked.prog.mapsAmong Tryz.f8.resultTypes.toList)=true:=by kernel_rfl
theorem c16:(Rows.fnExactReadScriptRow.loops==(Tryz.f8.params.toList++Rows.fnExactReadScriptSpec.plain.varTypes Tryz.checked.prog).any (Tryz.checked.prog.loopsFrom ·))=true:=by kernel_rfl
theorem c17:(Rows.fnExactReadScriptRow.wideKeys==(Tryz.f8.params.toList++Rows.fnExactReadScriptSpec.plain.varTypes Tryz.checked.prog++Tryz.f8.resultTypes.toList).any (Tryz.checked.prog.wideKeysFrom ·))=true:=by kernel_rfl
theorem c18:(Rows.fnExactReadScriptSpec.vars.all (Tryz.checked.prog.varReadable ·))=true:=by kernel_rfl
theorem c19:(Tryz.f8.resultTypes.all (λt=>Tryz.checked.prog.readableRec t&&decide (t<Tryz.checked.prog.types.size)))=true:=by kernel_rfl
theorem c20:(Rows.fnExactReadScriptRow.ifacesOut==Tryz.f8.resultTypes.toList.any (Tryz.checked.prog.ifacesRec ·))=true:=by kernel_rfl
theorem c21:(Rows.fnExactReadScriptRow.loopsOut==Tryz.f8.resultTypes.toList.any (Tryz.checked.prog.loopsFrom ·))=true:=by kernel_rfl
theorem c22:(Rows.fnExactReadScriptRow.plainKeys==Tryz.checked.prog.plainKeys)=true:=by kernel_rfl
theorem c23:(Rows.fnExactReadScriptRow.shortTexts.isNone)=true:=by kernel_rfl
theorem c24:(Tryz.checked.prog.stopsHeard)=true:=by kernel_rfl
theorem c25:(Tryz.checked.prog.mayEnter)=true:=by kernel_rfl
theorem c26:(Rows.fnExactReadScriptRow.lifted==Tryz.checked.prog.liftsFinal)=true:=by kernel_rfl
theorem c27:(Tryz.checked.prog.make==some Rows.fnExactReadScriptRow.make)=true:=by kernel_rfl
theorem c29:(Rows.fnExactReadScriptRow.pinned==Rows.fnExactReadScriptRow.pinnedBy)=true:=by kernel_rfl
theorem c30:(Rows.fnExactReadScriptRow.veiled==(Tryz.f8.params.toList++Rows.fnExactReadScriptSpec.plain.varTypes Tryz.checked.prog++Tryz.f8.resultTypes.toList).any (Tryz.checked.prog.veiledRec ·))=true:=by kernel_rfl
theorem c31:(Rows.fnExactReadScriptRow.veiledFits Tryz.checked.prog Tryz.f8.params.toList (Tryz.f8.params.toList++Rows.fnExactReadScriptSpec.plain.varTypes Tryz.checked.prog++Tryz.f8.resultTypes.toList))=true:=by kernel_rfl
theorem closed:joinedFacts Tryz.checked.prog 8 Tryz.f8 Rows.fnExactReadScriptSpec Rows.fnExactReadScriptRow=true:=by
 unfold joinedFacts
 exact and_t (and_t (and_t (and_t (and_t (and_t (and_t (and_t (and_t (and_t (and_t (and_t (and_t (and_t (and_t (and_t (and_t (and_t (and_t (and_t (and_t (and_t (and_t (and_t (and_t (and_t (and_t (and_t (and_t (and_t (and_t c0 c1) c2) c3) c4) c5) c6) c7) c8) c9) c10) c11) c12) c13) c14) c15) c16) c17) c18) c19) c20) c21) c22) c23) c24) c25) c26) c27) (by kernel_rfl)) c29) c30) c31
theorem named:Tryz.checked.prog.funcNamed Rows.fnExactReadScriptRow.func=some 8:=by kernel_rfl
theorem wrapper:Tryz.f8.isWrapper Tryz.checked.prog Rows.fnExactReadScriptRow.wrapper Rows.fnExactReadScriptRow.mainSum:=by unfold Func.isWrapper;first | (rw [if_pos (by decide +kernel)];kernel_rfl) | (rw [if_neg (by decide +kernel)];exact ⟨rfl,rfl⟩)
theorem over:Rows.fnExactReadScriptRow.holds Tryz.pinned (OpenSpec.ofChange Rows.fnExactReadScriptSpec):=
 OpenClaim.holds_of_wide 8 Tryz.f8 rfl rfl rfl rfl rfl rfl rfl ⟨rfl,rfl,rfl,rfl,rfl⟩ rfl rfl rfl rfl rfl named Tryz.func8 closed
  (of_decide_eq_true (by kernel_rfl)) wrapper
  (λos started H enc _=>lifted os started H enc)
end Go.Proofs.YtiieddiheadocaaGreat.fnExactReadScript
namespace Go.Proofs.YtiieddiheadocaaGreat
theorem fnExactReadScript_holds:Rows.FnExactReadScriptSaid:=fnExactReadScript.over
end Go.Proofs.YtiieddiheadocaaGreat
