/-
  Program's code interpreted over typed values; printed texts; plain laws. No conditions.
-/
import Derived.Test.YtnemiodjnhfejaaGreatSQn
import Derived.Test.YtnemiodjnhfejaaGreatRows
set_option linter.unusedVariables false
namespace Go.Proofs.YtnemiodjnhfejaaGreat.fnExactSquash
open Go Go.PI Go.PI.G Go.Proofs
theorem own:ownKnob Tryz.prog.godebug=none:=by kernel_rfl
theorem laidOut:laidOutB Tryz.prog=true:=by kernel_rfl
theorem run_eq (b:(List (ByteArray×(List (ByteArray×Int×Bool×Bool×Int×Int×ByteArray))×List ByteArray))×List (List (List (Int×Int×ByteArray)))) (t0:List Tag) (d:List (Int×ByteArray×(List (Int×Int×ByteArray))×(List (Int×Int×ByteArray))×Int×ByteArray×(List (ByteArray×Int×Bool×Bool×Int×Int×ByteArray))×List ByteArray×ByteArray×ByteArray)) (g:List Tag) (k:List TVal->List TVal->List TVal->Res):j27.run [⟨(.pair (.slice (.pair .str (.pair (.slice (.pair .str (.pair (.int .i64) (.pair .bool (.pair .bool (.pair (.int .i64) (.pair (.int .i64) .str))))))) (.slice .str)))) (.slice (.slice (.slice (.pair (.int .i64) (.pair (.int .i64) .str)))))),true,b,t0⟩,⟨(.slice (.pair (.int .i64) (.pair .str (.pair (.slice (.pair (.int .i64) (.pair (.int .i64) .str))) (.pair (.slice (.pair (.int .i64) (.pair (.int .i64) .str))) (.pair (.int .i64) (.pair .str (.pair (.slice (.pair .str (.pair (.int .i64) (.pair .bool (.pair .bool (.pair (.int .i64) (.pair (.int .i64) .str))))))) (.pair (.slice .str) (.pair .str .str)))))))))),false,d,g⟩] [] k=j2W b d (λ(f:Bool)=>k [⟨.bool,false,f,[]⟩] [] []):=by kernel_rfl
theorem pure (vals:List TVal) (h:Z4p j27.modes vals):j27.run vals [] Z60=some ():=by
 have f:j27.modes=[.borrow (.pair (.slice (.pair .str (.pair (.slice (.pair .str (.pair (.int .i64) (.pair .bool (.pair .bool (.pair (.int .i64) (.pair (.int .i64) .str))))))) (.slice .str)))) (.slice (.slice (.slice (.pair (.int .i64) (.pair (.int .i64) .str)))))) true,.borrow (.slice (.pair (.int .i64) (.pair .str (.pair (.slice (.pair (.int .i64) (.pair (.int .i64) .str))) (.pair (.slice (.pair (.int .i64) (.pair (.int .i64) .str))) (.pair (.int .i64) (.pair .str (.pair (.slice (.pair .str (.pair (.int .i64) (.pair .bool (.pair .bool (.pair (.int .i64) (.pair (.int .i64) .str))))))) (.pair (.slice .str) (.pair .str .str)))))))))) false]:=by kernel_rfl
 rw [f] at h
 obtain ⟨b,t0,vals,rfl,j,h⟩:=Z4p.one h
 obtain ⟨d,i,vals,rfl,w1,h⟩:=Z4p.one h
 obtain rfl:=Z4p.none h
 exact (run_eq b t0 d i Z60).trans ((jru b j d w1 (λg=>Z60 [⟨.bool,false,g,[]⟩] [] [])).trans rfl)
set_option maxRecDepth 100000 in
theorem lifted (i:Os) (b:i.Started) (H:Type) (enc:TypeId×Value->H) :
  ReturnsInHanded {} Tryz.checked i 13 .any (Rows.fnExactSquashSpec.pre6 enc Tryz.prog Tryz.f13 Rows.fnExactSquashRow.domain false) (Rows.fnExactSquashSpec.post enc Tryz.prog Tryz.f13 false true false false):=by
 refine returnsInHanded_of_change (C:=Tryz.checked) own b (by kernel_rfl) Tryz.func13
  (ChangeSpec.witness6 (enc:=enc) (C:=Tryz.checked) false ⟨#[],#[.agg #[.slice none 0 0,.slice none 0 0],.slice none 0 0],[]⟩ 8 (by kernel_rfl) (by kernel_rfl) (by kernel_rfl) (by kernel_rfl)) ?_
 intro W base args g gs f d j _ _
 exact Z9G j4e laidOut jh0 (by kernel_rfl) (J:=4) (by kernel_rfl) Tryz.underlying4 (by kernel_rfl) (by kernel_rfl) (λg h=>by
  match g,h with
  | [k,l],_=>rfl) pure d j
theorem and_t {a b:Bool} (d:a=true) (f:b=true):(a&&b)=true:=by rw [d,f];rfl
theorem c0:(Rows.fnExactSquashRow.wf (OpenSpec.ofChange Rows.fnExactSquashSpec))=true:=by kernel_rfl
theorem c1:(laidOutB Tryz.checked.prog)=true:=by kernel_rfl
theorem c2:(mapsRowed Tryz.checked.prog)=true:=by kernel_rfl
theorem c3:(Tryz.f13.params.all (Tryz.checked.prog.readableRec ·))=true:=by kernel_rfl
theorem c4:(namedTie Tryz.checked.prog Rows.fnExactSquashRow.named Rows.fnExactSquashSpec.vars)=true:=by kernel_rfl
theorem c5:(Rows.fnExactSquashRow.stops==[])=true:=by kernel_rfl
theorem c6:(Tryz.checked.prog.stops==[])=true:=by kernel_rfl
theorem c7:(Rows.fnExactSquashRow.knobs==[])=true:=by kernel_rfl
theorem c8:(Tryz.checked.prog.stopKnobs==[])=true:=by kernel_rfl
theorem c9:(Rows.fnExactSquashRow.inPlace==Tryz.checked.prog.inPlace 13)=true:=by kernel_rfl
theorem c10:(Rows.fnExactSquashRow.unfollowed==Tryz.checked.prog.unfollowed 13)=true:=by kernel_rfl
theorem c11:(Rows.fnExactSquashRow.recurses==Tryz.checked.prog.recurses 13)=true:=by kernel_rfl
theorem c12:(Rows.fnExactSquashRow.named==Tryz.checked.prog.varsNamed 13)=true:=by kernel_rfl
theorem c13:(Rows.fnExactSquashRow.maps==(Tryz.f13.params.toList++Rows.fnExactSquashSpec.plain.varTypes Tryz.checked.prog).any (Tryz.checked.prog.mapsRec ·))=true:=by kernel_rfl
theorem c14:(Rows.fnExactSquashRow.ifaces==(Tryz.f13.params.toList++Rows.fnExactSquashSpec.plain.varTypes Tryz.checked.prog).any (Tryz.checked.prog.ifacesRec ·))=true:=by kernel_rfl
theorem c15:(Rows.fnExactSquashRow.mapsOut==Tryz.checked.prog.mapsAmong Tryz.f13.resultTypes.toList)=true:=by kernel_rfl
theorem c16:(Rows.fnExactSquashRow.loops==(Tryz.f13.params.toList++Rows.fnExactSquashSpec.plain.varTypes Tryz.checked.prog).any (Tryz.checked.prog.loopsFrom ·))=true:=by kernel_rfl
theorem c17:(Rows.fnExactSquashRow.wideKeys==(Tryz.f13.params.toList++Rows.fnExactSquashSpec.plain.varTypes Tryz.checked.prog++Tryz.f13.resultTypes.toList).any (Tryz.checked.prog.wideKeysFrom ·))=true:=by kernel_rfl
theorem c18:(Rows.fnExactSquashSpec.vars.all (Tryz.checked.prog.varReadable ·))=true:=by kernel_rfl
theorem c19:(Tryz.f13.resultTypes.all (λt=>Tryz.checked.prog.readableRec t&&decide (t<Tryz.checked.prog.types.size)))=true:=by kernel_rfl
theorem c20:(Rows.fnExactSquashRow.ifacesOut==Tryz.f13.resultTypes.toList.any (Tryz.checked.prog.ifacesRec ·))=true:=by kernel_rfl
theorem c21:(Rows.fnExactSquashRow.loopsOut==Tryz.f13.resultTypes.toList.any (Tryz.checked.prog.loopsFrom ·))=true:=by kernel_rfl
theorem c22:(Rows.fnExactSquashRow.plainKeys==Tryz.checked.prog.plainKeys)=true:=by kernel_rfl
theorem c23:(Rows.fnExactSquashRow.shortTexts.isNone)=true:=by kernel_rfl
theorem c24:(Tryz.checked.prog.stopsHeard)=true:=by kernel_rfl
theorem c25:(Tryz.checked.prog.mayEnter)=true:=by kernel_rfl
theorem c26:(Rows.fnExactSquashRow.lifted==Tryz.checked.prog.liftsFinal)=true:=by kernel_rfl
theorem c27:(Tryz.checked.prog.make==some Rows.fnExactSquashRow.make)=true:=by kernel_rfl
theorem c29:(Rows.fnExactSquashRow.pinned==Rows.fnExactSquashRow.pinnedBy)=true:=by kernel_rfl
theorem c30:(Rows.fnExactSquashRow.veiled==(Tryz.f13.params.toList++Rows.fnExactSquashSpec.plain.varTypes Tryz.checked.prog++Tryz.f13.resultTypes.toList).any (Tryz.checked.prog.veiledRec ·))=true:=by kernel_rfl
theorem c31:(Rows.fnExactSquashRow.veiledFits Tryz.checked.prog Tryz.f13.params.toList (Tryz.f13.params.toList++Rows.fnExactSquashSpec.plain.varTypes Tryz.checked.prog++Tryz.f13.resultTypes.toList))=true:=by kernel_rfl
theorem closed:joinedFacts Tryz.checked.prog 13 Tryz.f13 Rows.fnExactSquashSpec Rows.fnExactSquashRow=true:=by
 unfold joinedFacts
 exact and_t (and_t (and_t (and_t (and_t (and_t (and_t (and_t (and_t (and_t (and_t (and_t (and_t (and_t (and_t (and_t (and_t (and_t (and_t (and_t (and_t (and_t (and_t (and_t (and_t (and_t (and_t (and_t (and_t (and_t (and_t c0 c1) c2) c3) c4) c5) c6) c7) c8) c9) c10) c11) c12) c13) c14) c15) c16) c17) c18) c19) c20) c21) c22) c23) c24) c25) c26) c27) (by kernel_rfl)) c29) c30) c31
theorem named:Tryz.checked.prog.funcNamed Rows.fnExactSquashRow.func=some 13:=by kernel_rfl
theorem wrapper:Tryz.f13.isWrapper Tryz.checked.prog Rows.fnExactSquashRow.wrapper Rows.fnExactSquashRow.mainSum:=by unfold Func.isWrapper;first | (rw [if_pos (by decide +kernel)];kernel_rfl) | (rw [if_neg (by decide +kernel)];exact ⟨rfl,rfl⟩)
theorem over:Rows.fnExactSquashRow.holds Tryz.pinned (OpenSpec.ofChange Rows.fnExactSquashSpec):=
 OpenClaim.holds_of_wide 13 Tryz.f13 rfl rfl rfl rfl rfl rfl rfl ⟨rfl,rfl,rfl,rfl,rfl⟩ rfl rfl rfl rfl rfl named Tryz.func13 closed
  (of_decide_eq_true (by kernel_rfl)) wrapper
  (λd b H enc _=>lifted d b H enc)
end Go.Proofs.YtnemiodjnhfejaaGreat.fnExactSquash
namespace Go.Proofs.YtnemiodjnhfejaaGreat
theorem fnExactSquash_holds:Rows.FnExactSquashSaid:=fnExactSquash.over
end Go.Proofs.YtnemiodjnhfejaaGreat
