/-
  Program's code interpreted over typed values; printed texts; plain laws. No conditions.
-/
import Derived.Test.YtnemiodjnhfejaaGreatPPg
import Derived.Test.YtnemiodjnhfejaaGreatRows
set_option linter.unusedVariables false
namespace Go.Proofs.YtnemiodjnhfejaaGreat.fnExactPubParts
open Go Go.PI Go.PI.G Go.Proofs
theorem own:ownKnob Tryz.prog.godebug=none:=by kernel_rfl
theorem laidOut:laidOutB Tryz.prog=true:=by kernel_rfl
theorem run_eq (x0:List ByteArray) (t0:List Tag) (x1:Int×Int×List ((Int×ByteArray×(List (Int×Int×ByteArray))×(List (Int×Int×ByteArray))×Int×ByteArray×(List (ByteArray×Int×Bool×Bool×Int×Int×ByteArray))×List ByteArray×ByteArray×ByteArray)×List ByteArray×List ByteArray)) (t1:List Tag) (k:List TVal->List TVal->List TVal->Res):j0C.run [⟨(.slice .str),true,x0,t0⟩,⟨(.pair (.int .i64) (.pair (.int .i64) (.slice (.pair (.pair (.int .i64) (.pair .str (.pair (.slice (.pair (.int .i64) (.pair (.int .i64) .str))) (.pair (.slice (.pair (.int .i64) (.pair (.int .i64) .str))) (.pair (.int .i64) (.pair .str (.pair (.slice (.pair .str (.pair (.int .i64) (.pair .bool (.pair .bool (.pair (.int .i64) (.pair (.int .i64) .str))))))) (.pair (.slice .str) (.pair .str .str))))))))) (.pair (.slice .str) (.slice .str)))))),true,x1,t1⟩] [] k=j0Q x0 x1 (λ(r0:Bool)=>k [⟨.bool,false,r0,[]⟩] [] []):=by kernel_rfl
theorem pure (vals:List TVal) (h:Z4q j0C.modes vals):j0C.run vals [] Z61=some ():=by
 have hm:j0C.modes=[.borrow (.slice .str) true,.borrow (.pair (.int .i64) (.pair (.int .i64) (.slice (.pair (.pair (.int .i64) (.pair .str (.pair (.slice (.pair (.int .i64) (.pair (.int .i64) .str))) (.pair (.slice (.pair (.int .i64) (.pair (.int .i64) .str))) (.pair (.int .i64) (.pair .str (.pair (.slice (.pair .str (.pair (.int .i64) (.pair .bool (.pair .bool (.pair (.int .i64) (.pair (.int .i64) .str))))))) (.pair (.slice .str) (.pair .str .str))))))))) (.pair (.slice .str) (.slice .str)))))) true]:=by kernel_rfl
 rw [hm] at h
 obtain ⟨x0,t0,vals,rfl,w0,h⟩:=Z4q.one h
 obtain ⟨x1,t1,vals,rfl,w1,h⟩:=Z4q.one h
 obtain rfl:=Z4q.none h
 exact (run_eq x0 t0 x1 t1 Z61).trans ((jcq x0 w0 x1 w1 (λr0=>Z61 [⟨.bool,false,r0,[]⟩] [] [])).trans rfl)
set_option maxRecDepth 100000 in
theorem lifted (os:Os) (started:os.Started) (H:Type) (enc:TypeId×Value->H) :
  ReturnsInHanded {} Tryz.checked os 3 .any (Rows.fnExactPubPartsSpec.pre6 enc Tryz.prog Tryz.f3 Rows.fnExactPubPartsRow.domain false) (Rows.fnExactPubPartsSpec.post enc Tryz.prog Tryz.f3 false true false false):=by
 refine returnsInHanded_of_change (C:=Tryz.checked) own started (by kernel_rfl) Tryz.func3
  (ChangeSpec.witness6 (enc:=enc) (C:=Tryz.checked) false ⟨#[],#[.agg #[.slice none 0 0],.agg #[.int .i64 0,.int .i64 0,.slice none 0 0]],[]⟩ 8 (by kernel_rfl) (by kernel_rfl) (by kernel_rfl) (by kernel_rfl)) ?_
 intro W base args ds gs before hval hW _ _
 exact Z9H j00 laidOut j7q (by kernel_rfl) (tb:=4) (by kernel_rfl) Tryz.underlying4 (by kernel_rfl) (by kernel_rfl) (λds h=>by
  match ds,h with
  | [d0,d1],_=>rfl) pure hval hW
theorem and_t {a b:Bool} (ha:a=true) (hb:b=true):(a&&b)=true:=by rw [ha,hb];rfl
theorem c0:(Rows.fnExactPubPartsRow.wf (OpenSpec.ofChange Rows.fnExactPubPartsSpec))=true:=by kernel_rfl
theorem c1:(laidOutB Tryz.checked.prog)=true:=by kernel_rfl
theorem c2:(mapsRowed Tryz.checked.prog)=true:=by kernel_rfl
theorem c3:(Tryz.f3.params.all (Tryz.checked.prog.readableRec ·))=true:=by kernel_rfl
theorem c4:(namedTie Tryz.checked.prog Rows.fnExactPubPartsRow.named Rows.fnExactPubPartsSpec.vars)=true:=by kernel_rfl
theorem c5:(Rows.fnExactPubPartsRow.stops==[])=true:=by kernel_rfl
theorem c6:(Tryz.checked.prog.stops==[])=true:=by kernel_rfl
theorem c7:(Rows.fnExactPubPartsRow.knobs==[])=true:=by kernel_rfl
theorem c8:(Tryz.checked.prog.stopKnobs==[])=true:=by kernel_rfl
theorem c9:(Rows.fnExactPubPartsRow.inPlace==Tryz.checked.prog.inPlace 3)=true:=by kernel_rfl
theorem c10:(Rows.fnExactPubPartsRow.unfollowed==Tryz.checked.prog.unfollowed 3)=true:=by kernel_rfl
theorem c11:(Rows.fnExactPubPartsRow.recurses==Tryz.checked.prog.recurses 3)=true:=by kernel_rfl
theorem c12:(Rows.fnExactPubPartsRow.named==Tryz.checked.prog.varsNamed 3)=true:=by kernel_rfl
theorem c13:(Rows.fnExactPubPartsRow.maps==(Tryz.f3.params.toList++Rows.fnExactPubPartsSpec.plain.varTypes Tryz.checked.prog).any (Tryz.checked.prog.mapsRec ·))=true:=by kernel_rfl
theorem c14:(Rows.fnExactPubPartsRow.ifaces==(Tryz.f3.params.toList++Rows.fnExactPubPartsSpec.plain.varTypes Tryz.checked.prog).any (Tryz.checked.prog.ifacesRec ·))=true:=by kernel_rfl
theorem c15:(Rows.fnExactPubPartsRow.mapsOut==Tryz.checked.prog.mapsAmong Tryz.f3.resultTypes.toList)=true:=by kernel_rfl
theorem c16:(Rows.fnExactPubPartsRow.loops==(Tryz.f3.params.toList++Rows.fnExactPubPartsSpec.plain.varTypes Tryz.checked.prog).any (Tryz.checked.prog.loopsFrom ·))=true:=by kernel_rfl
theorem c17:(Rows.fnExactPubPartsRow.wideKeys==(Tryz.f3.params.toList++Rows.fnExactPubPartsSpec.plain.varTypes Tryz.checked.prog++Tryz.f3.resultTypes.toList).any (Tryz.checked.prog.wideKeysFrom ·))=true:=by kernel_rfl
theorem c18:(Rows.fnExactPubPartsSpec.vars.all (Tryz.checked.prog.varReadable ·))=true:=by kernel_rfl
theorem c19:(Tryz.f3.resultTypes.all (λt=>Tryz.checked.prog.readableRec t&&decide (t<Tryz.checked.prog.types.size)))=true:=by kernel_rfl
theorem c20:(Rows.fnExactPubPartsRow.ifacesOut==Tryz.f3.resultTypes.toList.any (Tryz.checked.prog.ifacesRec ·))=true:=by kernel_rfl
theorem c21:(Rows.fnExactPubPartsRow.loopsOut==Tryz.f3.resultTypes.toList.any (Tryz.checked.prog.loopsFrom ·))=true:=by kernel_rfl
theorem c22:(Rows.fnExactPubPartsRow.plainKeys==Tryz.checked.prog.plainKeys)=true:=by kernel_rfl
theorem c23:(Rows.fnExactPubPartsRow.shortTexts.isNone)=true:=by kernel_rfl
theorem c24:(Tryz.checked.prog.stopsHeard)=true:=by kernel_rfl
theorem c25:(Tryz.checked.prog.mayEnter)=true:=by kernel_rfl
theorem c26:(Rows.fnExactPubPartsRow.lifted==Tryz.checked.prog.liftsFinal)=true:=by kernel_rfl
theorem c27:(Tryz.checked.prog.make==some Rows.fnExactPubPartsRow.make)=true:=by kernel_rfl
theorem c29:(Rows.fnExactPubPartsRow.pinned==Rows.fnExactPubPartsRow.pinnedBy)=true:=by kernel_rfl
theorem c30:(Rows.fnExactPubPartsRow.veiled==(Tryz.f3.params.toList++Rows.fnExactPubPartsSpec.plain.varTypes Tryz.checked.prog++Tryz.f3.resultTypes.toList).any (Tryz.checked.prog.veiledRec ·))=true:=by kernel_rfl
theorem c31:(Rows.fnExactPubPartsRow.veiledFits Tryz.checked.prog Tryz.f3.params.toList (Tryz.f3.params.toList++Rows.fnExactPubPartsSpec.plain.varTypes Tryz.checked.prog++Tryz.f3.resultTypes.toList))=true:=by kernel_rfl
theorem closed:joinedFacts Tryz.checked.prog 3 Tryz.f3 Rows.fnExactPubPartsSpec Rows.fnExactPubPartsRow=true:=by
 unfold joinedFacts
 exact and_t (and_t (and_t (and_t (and_t (and_t (and_t (and_t (and_t (and_t (and_t (and_t (and_t (and_t (and_t (and_t (and_t (and_t (and_t (and_t (and_t (and_t (and_t (and_t (and_t (and_t (and_t (and_t (and_t (and_t (and_t c0 c1) c2) c3) c4) c5) c6) c7) c8) c9) c10) c11) c12) c13) c14) c15) c16) c17) c18) c19) c20) c21) c22) c23) c24) c25) c26) c27) (by kernel_rfl)) c29) c30) c31
theorem named:Tryz.checked.prog.funcNamed Rows.fnExactPubPartsRow.func=some 3:=by kernel_rfl
theorem wrapper:Tryz.f3.isWrapper Tryz.checked.prog Rows.fnExactPubPartsRow.wrapper Rows.fnExactPubPartsRow.mainSum:=by unfold Func.isWrapper;first | (rw [if_pos (by decide +kernel)];kernel_rfl) | (rw [if_neg (by decide +kernel)];exact ⟨rfl,rfl⟩)
theorem over:Rows.fnExactPubPartsRow.holds Tryz.pinned (OpenSpec.ofChange Rows.fnExactPubPartsSpec):=
 OpenClaim.holds_of_wide 3 Tryz.f3 rfl rfl rfl rfl rfl rfl rfl ⟨rfl,rfl,rfl,rfl,rfl⟩ rfl rfl rfl rfl rfl named Tryz.func3 closed
  (of_decide_eq_true (by kernel_rfl)) wrapper
  (λos started H enc _=>lifted os started H enc)
end Go.Proofs.YtnemiodjnhfejaaGreat.fnExactPubParts
namespace Go.Proofs.YtnemiodjnhfejaaGreat
theorem fnExactPubParts_holds:Rows.FnExactPubPartsSaid:=fnExactPubParts.over
end Go.Proofs.YtnemiodjnhfejaaGreat
