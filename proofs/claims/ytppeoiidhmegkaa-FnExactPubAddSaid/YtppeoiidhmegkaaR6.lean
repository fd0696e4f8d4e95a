/-
  Program's code interpreted over typed values; printed texts; plain laws. No conditions.
-/
import Derived.Test.YtppeoiidhmegkaaAb
import Derived.Test.YtppeoiidhmegkaaRows
set_option linter.unusedVariables false
namespace Go.Proofs.Ytppeoiidhmegkaa.fnExactPubAdd
open Go Go.PI Go.PI.G Go.Proofs
theorem own:ownKnob Try.prog.godebug=none:=by kernel_rfl
theorem laidOut:laidOutB Try.prog=true:=by kernel_rfl
theorem run_eq (x0:List ByteArray) (t0:List Tag) (x1:ByteArray) (t1:List Tag) (k:List TVal->List TVal->List TVal->Res):j07.run [⟨(.slice .str),true,x0,t0⟩,⟨.str,false,x1,t1⟩] [] k=j0b x0 x1 (λ(r0:Bool)=>k [⟨.bool,false,r0,[]⟩] [] []):=by kernel_rfl
theorem pure (vals:List TVal) (h:Z3P j07.modes vals):j07.run vals [] Z53=some ():=by
 have hm:j07.modes=[.borrow (.slice .str) true,.borrow .str false]:=by kernel_rfl
 rw [hm] at h
 obtain ⟨x0,t0,vals,rfl,w0,h⟩:=Z3P.one h
 obtain ⟨x1,t1,vals,rfl,w1,h⟩:=Z3P.one h
 obtain rfl:=Z3P.none h
 exact (run_eq x0 t0 x1 t1 Z53).trans ((j3F x0 w0 x1 w1 (λr0=>Z53 [⟨.bool,false,r0,[]⟩] [] [])).trans rfl)
set_option maxRecDepth 100000 in
theorem lifted (os:Os) (started:os.Started) (H:Type) (enc:TypeId×Value->H) :
  ReturnsInHanded {} Try.checked os 6 .any (Rows.fnExactPubAddSpec.pre6 enc Try.prog Try.f6 Rows.fnExactPubAddRow.domain false) (Rows.fnExactPubAddSpec.post enc Try.prog Try.f6 false true false false):=by
 refine returnsInHanded_of_change (C:=Try.checked) own started (by kernel_rfl) Try.func6
  (ChangeSpec.witness6 (enc:=enc) (C:=Try.checked) false ⟨#[],#[.agg #[.slice none 0 0],.string ⟨#[]⟩],[]⟩ 8 (by kernel_rfl) (by kernel_rfl) (by kernel_rfl) (by kernel_rfl)) ?_
 intro W base args ds gs before hval hW _ _
 exact Z8k j00 laidOut j20 (by kernel_rfl) (tb:=4) (by kernel_rfl) Try.underlying4 (by kernel_rfl) (by kernel_rfl) (λds h=>by
  match ds,h with
  | [d0,d1],_=>rfl) pure hval hW
theorem and_t {a b:Bool} (ha:a=true) (hb:b=true):(a&&b)=true:=by rw [ha,hb];rfl
theorem c0:(Rows.fnExactPubAddRow.wf (OpenSpec.ofChange Rows.fnExactPubAddSpec))=true:=by kernel_rfl
theorem c1:(laidOutB Try.checked.prog)=true:=by kernel_rfl
theorem c2:(mapsRowed Try.checked.prog)=true:=by kernel_rfl
theorem c3:(Try.f6.params.all (Try.checked.prog.readableRec ·))=true:=by kernel_rfl
theorem c4:(namedTie Try.checked.prog Rows.fnExactPubAddRow.named Rows.fnExactPubAddSpec.vars)=true:=by kernel_rfl
theorem c5:(Rows.fnExactPubAddRow.stops==[])=true:=by kernel_rfl
theorem c6:(Try.checked.prog.stops==[])=true:=by kernel_rfl
theorem c7:(Rows.fnExactPubAddRow.knobs==[])=true:=by kernel_rfl
theorem c8:(Try.checked.prog.stopKnobs==[])=true:=by kernel_rfl
theorem c9:(Rows.fnExactPubAddRow.inPlace==Try.checked.prog.inPlace 6)=true:=by kernel_rfl
theorem c10:(Rows.fnExactPubAddRow.unfollowed==Try.checked.prog.unfollowed 6)=true:=by kernel_rfl
theorem c11:(Rows.fnExactPubAddRow.recurses==Try.checked.prog.recurses 6)=true:=by kernel_rfl
theorem c12:(Rows.fnExactPubAddRow.named==Try.checked.prog.varsNamed 6)=true:=by kernel_rfl
theorem c13:(Rows.fnExactPubAddRow.maps==(Try.f6.params.toList++Rows.fnExactPubAddSpec.plain.varTypes Try.checked.prog).any (Try.checked.prog.mapsRec ·))=true:=by kernel_rfl
theorem c14:(Rows.fnExactPubAddRow.ifaces==(Try.f6.params.toList++Rows.fnExactPubAddSpec.plain.varTypes Try.checked.prog).any (Try.checked.prog.ifacesRec ·))=true:=by kernel_rfl
theorem c15:(Rows.fnExactPubAddRow.mapsOut==Try.checked.prog.mapsAmong Try.f6.resultTypes.toList)=true:=by kernel_rfl
theorem c16:(Rows.fnExactPubAddRow.loops==(Try.f6.params.toList++Rows.fnExactPubAddSpec.plain.varTypes Try.checked.prog).any (Try.checked.prog.loopsFrom ·))=true:=by kernel_rfl
theorem c17:(Rows.fnExactPubAddRow.wideKeys==(Try.f6.params.toList++Rows.fnExactPubAddSpec.plain.varTypes Try.checked.prog++Try.f6.resultTypes.toList).any (Try.checked.prog.wideKeysFrom ·))=true:=by kernel_rfl
theorem c18:(Rows.fnExactPubAddSpec.vars.all (Try.checked.prog.varReadable ·))=true:=by kernel_rfl
theorem c19:(Try.f6.resultTypes.all (λt=>Try.checked.prog.readableRec t&&decide (t<Try.checked.prog.types.size)))=true:=by kernel_rfl
theorem c20:(Rows.fnExactPubAddRow.ifacesOut==Try.f6.resultTypes.toList.any (Try.checked.prog.ifacesRec ·))=true:=by kernel_rfl
theorem c21:(Rows.fnExactPubAddRow.loopsOut==Try.f6.resultTypes.toList.any (Try.checked.prog.loopsFrom ·))=true:=by kernel_rfl
theorem c22:(Rows.fnExactPubAddRow.plainKeys==Try.checked.prog.plainKeys)=true:=by kernel_rfl
theorem c23:(Rows.fnExactPubAddRow.shortTexts.isNone)=true:=by kernel_rfl
theorem c24:(Try.checked.prog.stopsHeard)=true:=by kernel_rfl
theorem c25:(Try.checked.prog.mayEnter)=true:=by kernel_rfl
theorem c26:(Rows.fnExactPubAddRow.lifted==Try.checked.prog.liftsFinal)=true:=by kernel_rfl
theorem c27:(Try.checked.prog.make==some Rows.fnExactPubAddRow.make)=true:=by kernel_rfl
theorem c29:(Rows.fnExactPubAddRow.pinned==Rows.fnExactPubAddRow.pinnedBy)=true:=by kernel_rfl
theorem c30:(Rows.fnExactPubAddRow.veiled==(Try.f6.params.toList++Rows.fnExactPubAddSpec.plain.varTypes Try.checked.prog++Try.f6.resultTypes.toList).any (Try.checked.prog.veiledRec ·))=true:=by kernel_rfl
theorem c31:(Rows.fnExactPubAddRow.veiledFits Try.checked.prog Try.f6.params.toList (Try.f6.params.toList++Rows.fnExactPubAddSpec.plain.varTypes Try.checked.prog++Try.f6.resultTypes.toList))=true:=by kernel_rfl
theorem closed:joinedFacts Try.checked.prog 6 Try.f6 Rows.fnExactPubAddSpec Rows.fnExactPubAddRow=true:=by
 unfold joinedFacts
 exact and_t (and_t (and_t (and_t (and_t (and_t (and_t (and_t (and_t (and_t (and_t (and_t (and_t (and_t (and_t (and_t (and_t (and_t (and_t (and_t (and_t (and_t (and_t (and_t (and_t (and_t (and_t (and_t (and_t (and_t (and_t c0 c1) c2) c3) c4) c5) c6) c7) c8) c9) c10) c11) c12) c13) c14) c15) c16) c17) c18) c19) c20) c21) c22) c23) c24) c25) c26) c27) (by kernel_rfl)) c29) c30) c31
theorem named:Try.checked.prog.funcNamed Rows.fnExactPubAddRow.func=some 6:=by kernel_rfl
theorem wrapper:Try.f6.isWrapper Try.checked.prog Rows.fnExactPubAddRow.wrapper Rows.fnExactPubAddRow.mainSum:=by unfold Func.isWrapper;first | (rw [if_pos (by decide +kernel)];kernel_rfl) | (rw [if_neg (by decide +kernel)];exact ⟨rfl,rfl⟩)
theorem over:Rows.fnExactPubAddRow.holds Try.pinned (OpenSpec.ofChange Rows.fnExactPubAddSpec):=
 OpenClaim.holds_of_wide 6 Try.f6 rfl rfl rfl rfl rfl rfl rfl ⟨rfl,rfl,rfl,rfl,rfl⟩ rfl rfl rfl rfl rfl named Try.func6 closed
  (of_decide_eq_true (by kernel_rfl)) wrapper
  (λos started H enc _=>lifted os started H enc)
end Go.Proofs.Ytppeoiidhmegkaa.fnExactPubAdd
namespace Go.Proofs.Ytppeoiidhmegkaa
theorem fnExactPubAdd_holds:Rows.FnExactPubAddSaid:=fnExactPubAdd.over
end Go.Proofs.Ytppeoiidhmegkaa
