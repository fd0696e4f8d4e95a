/-
  Program's code interpreted over typed values; printed texts; plain laws. No conditions.
-/
import Derived.Test.YtppeoiidhmegkaaGreatBh
import Derived.Test.YtppeoiidhmegkaaGreatRows
set_option linter.unusedVariables false
namespace Go.Proofs.YtppeoiidhmegkaaGreat.fnExactWorldNew
open Go Go.PI Go.PI.G Go.Proofs
theorem own:ownKnob Tryz.prog.godebug=none:=by kernel_rfl
theorem laidOut:laidOutB Tryz.prog=true:=by kernel_rfl
theorem run_eq (x0:List ByteArray) (t0:List Tag) (x1:(List (ByteArray×(List (ByteArray×Int×Bool×Bool×Int×Int×ByteArray))×List ByteArray))×List (List (List (Int×Int×ByteArray)))) (t1:List Tag) (k:List TVal->List TVal->List TVal->Res):j0O.run [⟨(.slice .str),true,x0,t0⟩,⟨(.pair (.slice (.pair .str (.pair (.slice (.pair .str (.pair (.int .i64) (.pair .bool (.pair .bool (.pair (.int .i64) (.pair (.int .i64) .str))))))) (.slice .str)))) (.slice (.slice (.slice (.pair (.int .i64) (.pair (.int .i64) .str)))))),true,x1,t1⟩] [] k=j10 x0 x1 (λ(r0:Bool)=>k [⟨.bool,false,r0,[]⟩] [] []):=by kernel_rfl
theorem pure (vals:List TVal) (h:Z3P j0O.modes vals):j0O.run vals [] Z53=some ():=by
 have hm:j0O.modes=[.borrow (.slice .str) true,.borrow (.pair (.slice (.pair .str (.pair (.slice (.pair .str (.pair (.int .i64) (.pair .bool (.pair .bool (.pair (.int .i64) (.pair (.int .i64) .str))))))) (.slice .str)))) (.slice (.slice (.slice (.pair (.int .i64) (.pair (.int .i64) .str)))))) true]:=by kernel_rfl
 rw [hm] at h
 obtain ⟨x0,t0,vals,rfl,w0,h⟩:=Z3P.one h
 obtain ⟨x1,t1,vals,rfl,w1,h⟩:=Z3P.one h
 obtain rfl:=Z3P.none h
 exact (run_eq x0 t0 x1 t1 Z53).trans ((jgF x0 w0 x1 w1 (λr0=>Z53 [⟨.bool,false,r0,[]⟩] [] [])).trans rfl)
set_option maxRecDepth 100000 in
theorem lifted (os:Os) (started:os.Started) (H:Type) (enc:TypeId×Value->H) :
  ReturnsInHanded {} Tryz.checked os 8 .any (Rows.fnExactWorldNewSpec.pre6 enc Tryz.prog Tryz.f8 Rows.fnExactWorldNewRow.domain false) (Rows.fnExactWorldNewSpec.post enc Tryz.prog Tryz.f8 false true false false):=by
 refine returnsInHanded_of_change (C:=Tryz.checked) own started (by kernel_rfl) Tryz.func8
  (ChangeSpec.witness6 (enc:=enc) (C:=Tryz.checked) false ⟨#[],#[.agg #[.slice none 0 0],.agg #[.slice none 0 0,.slice none 0 0]],[]⟩ 8 (by kernel_rfl) (by kernel_rfl) (by kernel_rfl) (by kernel_rfl)) ?_
 intro W base args ds gs before hval hW _ _
 exact Z8k j01 laidOut j9L (by kernel_rfl) (tb:=4) (by kernel_rfl) Tryz.underlying4 (by kernel_rfl) (by kernel_rfl) (λds h=>by
  match ds,h with
  | [d0,d1],_=>rfl) pure hval hW
theorem and_t {a b:Bool} (ha:a=true) (hb:b=true):(a&&b)=true:=by rw [ha,hb];rfl
theorem c0:(Rows.fnExactWorldNewRow.wf (OpenSpec.ofChange Rows.fnExactWorldNewSpec))=true:=by kernel_rfl
theorem c1:(laidOutB Tryz.checked.prog)=true:=by kernel_rfl
theorem c2:(mapsRowed Tryz.checked.prog)=true:=by kernel_rfl
theorem c3:(Tryz.f8.params.all (Tryz.checked.prog.readableRec ·))=true:=by kernel_rfl
theorem c4:(namedTie Tryz.checked.prog Rows.fnExactWorldNewRow.named Rows.fnExactWorldNewSpec.vars)=true:=by kernel_rfl
theorem c5:(Rows.fnExactWorldNewRow.stops==[])=true:=by kernel_rfl
theorem c6:(Tryz.checked.prog.stops==[])=true:=by kernel_rfl
theorem c7:(Rows.fnExactWorldNewRow.knobs==[])=true:=by kernel_rfl
theorem c8:(Tryz.checked.prog.stopKnobs==[])=true:=by kernel_rfl
theorem c9:(Rows.fnExactWorldNewRow.inPlace==Tryz.checked.prog.inPlace 8)=true:=by kernel_rfl
theorem c10:(Rows.fnExactWorldNewRow.unfollowed==Tryz.checked.prog.unfollowed 8)=true:=by kernel_rfl
theorem c11:(Rows.fnExactWorldNewRow.recurses==Tryz.checked.prog.recurses 8)=true:=by kernel_rfl
theorem c12:(Rows.fnExactWorldNewRow.named==Tryz.checked.prog.varsNamed 8)=true:=by kernel_rfl
theorem c13:(Rows.fnExactWorldNewRow.maps==(Tryz.f8.params.toList++Rows.fnExactWorldNewSpec.plain.varTypes Tryz.checked.prog).any (Tryz.checked.prog.mapsRec ·))=true:=by kernel_rfl
theorem c14:(Rows.fnExactWorldNewRow.ifaces==(Tryz.f8.params.toList++Rows.fnExactWorldNewSpec.plain.varTypes Tryz.checked.prog).any (Tryz.checked.prog.ifacesRec ·))=true:=by kernel_rfl
theorem c15:(Rows.fnExactWorldNewRow.mapsOut==Tryz.checked.prog.mapsAmong Tryz.f8.resultTypes.toList)=true:=by kernel_rfl
theorem c16:(Rows.fnExactWorldNewRow.loops==(Tryz.f8.params.toList++Rows.fnExactWorldNewSpec.plain.varTypes Tryz.checked.prog).any (Tryz.checked.prog.loopsFrom ·))=true:=by kernel_rfl
theorem c17:(Rows.fnExactWorldNewRow.wideKeys==(Tryz.f8.params.toList++Rows.fnExactWorldNewSpec.plain.varTypes Tryz.checked.prog++Tryz.f8.resultTypes.toList).any (Tryz.checked.prog.wideKeysFrom ·))=true:=by kernel_rfl
theorem c18:(Rows.fnExactWorldNewSpec.vars.all (Tryz.checked.prog.varReadable ·))=true:=by kernel_rfl
theorem c19:(Tryz.f8.resultTypes.all (λt=>Tryz.checked.prog.readableRec t&&decide (t<Tryz.checked.prog.types.size)))=true:=by kernel_rfl
theorem c20:(Rows.fnExactWorldNewRow.ifacesOut==Tryz.f8.resultTypes.toList.any (Tryz.checked.prog.ifacesRec ·))=true:=by kernel_rfl
theorem c21:(Rows.fnExactWorldNewRow.loopsOut==Tryz.f8.resultTypes.toList.any (Tryz.checked.prog.loopsFrom ·))=true:=by kernel_rfl
theorem c22:(Rows.fnExactWorldNewRow.plainKeys==Tryz.checked.prog.plainKeys)=true:=by kernel_rfl
theorem c23:(Rows.fnExactWorldNewRow.shortTexts.isNone)=true:=by kernel_rfl
theorem c24:(Tryz.checked.prog.stopsHeard)=true:=by kernel_rfl
theorem c25:(Tryz.checked.prog.mayEnter)=true:=by kernel_rfl
theorem c26:(Rows.fnExactWorldNewRow.lifted==Tryz.checked.prog.liftsFinal)=true:=by kernel_rfl
theorem c27:(Tryz.checked.prog.make==some Rows.fnExactWorldNewRow.make)=true:=by kernel_rfl
theorem c29:(Rows.fnExactWorldNewRow.pinned==Rows.fnExactWorldNewRow.pinnedBy)=true:=by kernel_rfl
theorem c30:(Rows.fnExactWorldNewRow.veiled==(Tryz.f8.params.toList++Rows.fnExactWorldNewSpec.plain.varTypes Tryz.checked.prog++Tryz.f8.resultTypes.toList).any (Tryz.checked.prog.veiledRec ·))=true:=by kernel_rfl
theorem c31:(Rows.fnExactWorldNewRow.veiledFits Tryz.checked.prog Tryz.f8.params.toList (Tryz.f8.params.toList++Rows.fnExactWorldNewSpec.plain.varTypes Tryz.checked.prog++Tryz.f8.resultTypes.toList))=true:=by kernel_rfl
theorem closed:joinedFacts Tryz.checked.prog 8 Tryz.f8 Rows.fnExactWorldNewSpec Rows.fnExactWorldNewRow=true:=by
 unfold joinedFacts
 exact and_t (and_t (and_t (and_t (and_t (and_t (and_t (and_t (and_t (and_t (and_t (and_t (and_t (and_t (and_t (and_t (and_t (and_t (and_t (and_t (and_t (and_t (and_t (and_t (and_t (and_t (and_t (and_t (and_t (and_t (and_t c0 c1) c2) c3) c4) c5) c6) c7) c8) c9) c10) c11) c12) c13) c14) c15) c16) c17) c18) c19) c20) c21) c22) c23) c24) c25) c26) c27) (by kernel_rfl)) c29) c30) c31
theorem named:Tryz.checked.prog.funcNamed Rows.fnExactWorldNewRow.func=some 8:=by kernel_rfl
theorem wrapper:Tryz.f8.isWrapper Tryz.checked.prog Rows.fnExactWorldNewRow.wrapper Rows.fnExactWorldNewRow.mainSum:=by unfold Func.isWrapper;first | (rw [if_pos (by decide +kernel)];kernel_rfl) | (rw [if_neg (by decide +kernel)];exact ⟨rfl,rfl⟩)
theorem over:Rows.fnExactWorldNewRow.holds Tryz.pinned (OpenSpec.ofChange Rows.fnExactWorldNewSpec):=
 OpenClaim.holds_of_wide 8 Tryz.f8 rfl rfl rfl rfl rfl rfl rfl ⟨rfl,rfl,rfl,rfl,rfl⟩ rfl rfl rfl rfl rfl named Tryz.func8 closed
  (of_decide_eq_true (by kernel_rfl)) wrapper
  (λos started H enc _=>lifted os started H enc)
end Go.Proofs.YtppeoiidhmegkaaGreat.fnExactWorldNew
namespace Go.Proofs.YtppeoiidhmegkaaGreat
theorem fnExactWorldNew_holds:Rows.FnExactWorldNewSaid:=fnExactWorldNew.over
end Go.Proofs.YtppeoiidhmegkaaGreat
