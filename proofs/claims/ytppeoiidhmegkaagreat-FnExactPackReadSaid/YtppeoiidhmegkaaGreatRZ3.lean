/-
  Program's code interpreted over typed values; printed texts; plain laws. No conditions.
-/
import Derived.Test.YtppeoiidhmegkaaGreatAh
import Derived.Test.YtppeoiidhmegkaaGreatRows
set_option linter.unusedVariables false
namespace Go.Proofs.YtppeoiidhmegkaaGreat.fnExactPackRead
open Go Go.PI Go.PI.G Go.Proofs
theorem own:ownKnob Tryz.prog.godebug=none:=by kernel_rfl
theorem laidOut:laidOutB Tryz.prog=true:=by kernel_rfl
theorem run_eq (x0:List Int) (t0:List Tag) (k:List TVal->List TVal->List TVal->Res):j0Z.run [⟨(.slice (.int .u8)),true,x0,t0⟩] [] k=j1p x0 (λ(r0:Bool)=>k [⟨.bool,false,r0,[]⟩] [] []):=by kernel_rfl
theorem pure (vals:List TVal) (h:Z3P j0Z.modes vals):j0Z.run vals [] Z53=some ():=by
 have hm:j0Z.modes=[.borrow (.slice (.int .u8)) true]:=by kernel_rfl
 rw [hm] at h
 obtain ⟨x0,t0,vals,rfl,w0,h⟩:=Z3P.one h
 obtain rfl:=Z3P.none h
 exact (run_eq x0 t0 Z53).trans ((jfO x0 w0 (λr0=>Z53 [⟨.bool,false,r0,[]⟩] [] [])).trans rfl)
set_option maxRecDepth 100000 in
theorem lifted (os:Os) (started:os.Started) (H:Type) (enc:TypeId×Value->H) :
  ReturnsInHanded {} Tryz.checked os 3 .any (Rows.fnExactPackReadSpec.pre6 enc Tryz.prog Tryz.f3 Rows.fnExactPackReadRow.domain false) (Rows.fnExactPackReadSpec.post enc Tryz.prog Tryz.f3 false true false false):=by
 refine returnsInHanded_of_change (C:=Tryz.checked) own started (by kernel_rfl) Tryz.func3
  (ChangeSpec.witness6 (enc:=enc) (C:=Tryz.checked) false ⟨#[],#[.agg #[.slice none 0 0]],[]⟩ 8 (by kernel_rfl) (by kernel_rfl) (by kernel_rfl) (by kernel_rfl)) ?_
 intro W base args ds gs before hval hW _ _
 exact Z8k j00 laidOut j9I (by kernel_rfl) (tb:=4) (by kernel_rfl) Tryz.underlying4 (by kernel_rfl) (by kernel_rfl) (λds h=>by
  match ds,h with
  | [d0],_=>rfl) pure hval hW
theorem and_t {a b:Bool} (ha:a=true) (hb:b=true):(a&&b)=true:=by rw [ha,hb];rfl
theorem c0:(Rows.fnExactPackReadRow.wf (OpenSpec.ofChange Rows.fnExactPackReadSpec))=true:=by kernel_rfl
theorem c1:(laidOutB Tryz.checked.prog)=true:=by kernel_rfl
theorem c2:(mapsRowed Tryz.checked.prog)=true:=by kernel_rfl
theorem c3:(Tryz.f3.params.all (Tryz.checked.prog.readableRec ·))=true:=by kernel_rfl
theorem c4:(namedTie Tryz.checked.prog Rows.fnExactPackReadRow.named Rows.fnExactPackReadSpec.vars)=true:=by kernel_rfl
theorem c5:(Rows.fnExactPackReadRow.stops==[])=true:=by kernel_rfl
theorem c6:(Tryz.checked.prog.stops==[])=true:=by kernel_rfl
theorem c7:(Rows.fnExactPackReadRow.knobs==[])=true:=by kernel_rfl
theorem c8:(Tryz.checked.prog.stopKnobs==[])=true:=by kernel_rfl
theorem c9:(Rows.fnExactPackReadRow.inPlace==Tryz.checked.prog.inPlace 3)=true:=by kernel_rfl
theorem c10:(Rows.fnExactPackReadRow.unfollowed==Tryz.checked.prog.unfollowed 3)=true:=by kernel_rfl
theorem c11:(Rows.fnExactPackReadRow.recurses==Tryz.checked.prog.recurses 3)=true:=by kernel_rfl
theorem c12:(Rows.fnExactPackReadRow.named==Tryz.checked.prog.varsNamed 3)=true:=by kernel_rfl
theorem c13:(Rows.fnExactPackReadRow.maps==(Tryz.f3.params.toList++Rows.fnExactPackReadSpec.plain.varTypes Tryz.checked.prog).any (Tryz.checked.prog.mapsRec ·))=true:=by kernel_rfl
theorem c14:(Rows.fnExactPackReadRow.ifaces==(Tryz.f3.params.toList++Rows.fnExactPackReadSpec.plain.varTypes Tryz.checked.prog).any (Tryz.checked.prog.ifacesRec ·))=true:=by kernel_rfl
theorem c15:(Rows.fnExactPackReadRow.mapsOut==Tryz.checked.prog.mapsAmong Tryz.f3.resultTypes.toList)=true:=by kernel_rfl
theorem c16:(Rows.fnExactPackReadRow.loops==(Tryz.f3.params.toList++Rows.fnExactPackReadSpec.plain.varTypes Tryz.checked.prog).any (Tryz.checked.prog.loopsFrom ·))=true:=by kernel_rfl
theorem c17:(Rows.fnExactPackReadRow.wideKeys==(Tryz.f3.params.toList++Rows.fnExactPackReadSpec.plain.varTypes Tryz.checked.prog++Tryz.f3.resultTypes.toList).any (Tryz.checked.prog.wideKeysFrom ·))=true:=by kernel_rfl
theorem c18:(Rows.fnExactPackReadSpec.vars.all (Tryz.checked.prog.varReadable ·))=true:=by kernel_rfl
theorem c19:(Tryz.f3.resultTypes.all (λt=>Tryz.checked.prog.readableRec t&&decide (t<Tryz.checked.prog.types.size)))=true:=by kernel_rfl
theorem c20:(Rows.fnExactPackReadRow.ifacesOut==Tryz.f3.resultTypes.toList.any (Tryz.checked.prog.ifacesRec ·))=true:=by kernel_rfl
theorem c21:(Rows.fnExactPackReadRow.loopsOut==Tryz.f3.resultTypes.toList.any (Tryz.checked.prog.loopsFrom ·))=true:=by kernel_rfl
theorem c22:(Rows.fnExactPackReadRow.plainKeys==Tryz.checked.prog.plainKeys)=true:=by kernel_rfl
theorem c23:(Rows.fnExactPackReadRow.shortTexts.isNone)=true:=by kernel_rfl
theorem c24:(Tryz.checked.prog.stopsHeard)=true:=by kernel_rfl
theorem c25:(Tryz.checked.prog.mayEnter)=true:=by kernel_rfl
theorem c26:(Rows.fnExactPackReadRow.lifted==Tryz.checked.prog.liftsFinal)=true:=by kernel_rfl
theorem c27:(Tryz.checked.prog.make==some Rows.fnExactPackReadRow.make)=true:=by kernel_rfl
theorem c29:(Rows.fnExactPackReadRow.pinned==Rows.fnExactPackReadRow.pinnedBy)=true:=by kernel_rfl
theorem c30:(Rows.fnExactPackReadRow.veiled==(Tryz.f3.params.toList++Rows.fnExactPackReadSpec.plain.varTypes Tryz.checked.prog++Tryz.f3.resultTypes.toList).any (Tryz.checked.prog.veiledRec ·))=true:=by kernel_rfl
theorem c31:(Rows.fnExactPackReadRow.veiledFits Tryz.checked.prog Tryz.f3.params.toList (Tryz.f3.params.toList++Rows.fnExactPackReadSpec.plain.varTypes Tryz.checked.prog++Tryz.f3.resultTypes.toList))=true:=by kernel_rfl
theorem closed:joinedFacts Tryz.checked.prog 3 Tryz.f3 Rows.fnExactPackReadSpec Rows.fnExactPackReadRow=true:=by
 unfold joinedFacts
 exact and_t (and_t (and_t (and_t (and_t (and_t (and_t (and_t (and_t (and_t (and_t (and_t (and_t (and_t (and_t (and_t (and_t (and_t (and_t (and_t (and_t (and_t (and_t (and_t (and_t (and_t (and_t (and_t (and_t (and_t (and_t c0 c1) c2) c3) c4) c5) c6) c7) c8) c9) c10) c11) c12) c13) c14) c15) c16) c17) c18) c19) c20) c21) c22) c23) c24) c25) c26) c27) (by kernel_rfl)) c29) c30) c31
theorem named:Tryz.checked.prog.funcNamed Rows.fnExactPackReadRow.func=some 3:=by kernel_rfl
theorem wrapper:Tryz.f3.isWrapper Tryz.checked.prog Rows.fnExactPackReadRow.wrapper Rows.fnExactPackReadRow.mainSum:=by unfold Func.isWrapper;first | (rw [if_pos (by decide +kernel)];kernel_rfl) | (rw [if_neg (by decide +kernel)];exact ⟨rfl,rfl⟩)
theorem over:Rows.fnExactPackReadRow.holds Tryz.pinned (OpenSpec.ofChange Rows.fnExactPackReadSpec):=
 OpenClaim.holds_of_wide 3 Tryz.f3 rfl rfl rfl rfl rfl rfl rfl ⟨rfl,rfl,rfl,rfl,rfl⟩ rfl rfl rfl rfl rfl named Tryz.func3 closed
  (of_decide_eq_true (by kernel_rfl)) wrapper
  (λos started H enc _=>lifted os started H enc)
end Go.Proofs.YtppeoiidhmegkaaGreat.fnExactPackRead
namespace Go.Proofs.YtppeoiidhmegkaaGreat
theorem fnExactPackRead_holds:Rows.FnExactPackReadSaid:=fnExactPackRead.over
end Go.Proofs.YtppeoiidhmegkaaGreat
