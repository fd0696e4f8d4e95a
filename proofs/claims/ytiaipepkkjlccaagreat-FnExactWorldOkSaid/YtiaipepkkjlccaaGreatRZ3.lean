/-
  Program's code interpreted over typed values; printed texts; plain laws. No conditions.
-/
import Derived.Test.YtiaipepkkjlccaaGreatWOm
import Derived.Test.YtiaipepkkjlccaaGreatRows
set_option linter.unusedVariables false
namespace Go.Proofs.YtiaipepkkjlccaaGreat.fnExactWorldOk
open Go Go.PI Go.PI.G Go.Proofs
theorem own:ownKnob Tryz.prog.godebug=none:=by kernel_rfl
theorem laidOut:laidOutB Tryz.prog=true:=by kernel_rfl
theorem run_eq (b:(List (Int×Int×Int×ByteArray×(List (Int×Int×ByteArray))×(List (Int×Int×ByteArray))×Int×ByteArray×(List (ByteArray×Int×Bool×Bool×Int×Int×ByteArray))×List ByteArray×ByteArray×ByteArray))×List ByteArray×(((List (ByteArray×(List (ByteArray×Int×Bool×Bool×Int×Int×ByteArray))×List ByteArray))×List (List (List (Int×Int×ByteArray))))×Int×Int)×(((List (ByteArray×(List (ByteArray×Int×Bool×Bool×Int×Int×ByteArray))×List ByteArray))×List (List (List (Int×Int×ByteArray))))×Int×Int)×List (List Int)×List Int)(t0:List Tag)(k:List TVal->List TVal->List TVal->Res):j1i.run [⟨(.pair (.slice (.pair (.int .i64) (.pair (.int .i64) (.pair (.int .i64) (.pair .str (.pair (.slice (.pair (.int .i64) (.pair (.int .i64) .str))) (.pair (.slice (.pair (.int .i64) (.pair (.int .i64) .str))) (.pair (.int .i64) (.pair .str (.pair (.slice (.pair .str (.pair (.int .i64) (.pair .bool (.pair .bool (.pair (.int .i64) (.pair (.int .i64) .str))))))) (.pair (.slice .str) (.pair .str .str)))))))))))) (.pair (.slice .str) (.pair (.pair (.pair (.slice (.pair .str (.pair (.slice (.pair .str (.pair (.int .i64) (.pair .bool (.pair .bool (.pair (.int .i64) (.pair (.int .i64) .str))))))) (.slice .str)))) (.slice (.slice (.slice (.pair (.int .i64) (.pair (.int .i64) .str)))))) (.pair (.int .i64) (.int .i64))) (.pair (.pair (.pair (.slice (.pair .str (.pair (.slice (.pair .str (.pair (.int .i64) (.pair .bool (.pair .bool (.pair (.int .i64) (.pair (.int .i64) .str))))))) (.slice .str)))) (.slice (.slice (.slice (.pair (.int .i64) (.pair (.int .i64) .str)))))) (.pair (.int .i64) (.int .i64))) (.pair (.slice (.slice (.int .u8))) (.slice (.int .i64))))))),true,b,t0⟩] [] k=j1M b (λ(d:Bool)=>k [⟨.bool,false,d,[]⟩] [] []):=by kernel_rfl
theorem pure (vals:List TVal)(h:Z4o j1i.modes vals):j1i.run vals [] Z5Z=some ():=by
 have d:j1i.modes=[.borrow (.pair (.slice (.pair (.int .i64) (.pair (.int .i64) (.pair (.int .i64) (.pair .str (.pair (.slice (.pair (.int .i64) (.pair (.int .i64) .str))) (.pair (.slice (.pair (.int .i64) (.pair (.int .i64) .str))) (.pair (.int .i64) (.pair .str (.pair (.slice (.pair .str (.pair (.int .i64) (.pair .bool (.pair .bool (.pair (.int .i64) (.pair (.int .i64) .str))))))) (.pair (.slice .str) (.pair .str .str)))))))))))) (.pair (.slice .str) (.pair (.pair (.pair (.slice (.pair .str (.pair (.slice (.pair .str (.pair (.int .i64) (.pair .bool (.pair .bool (.pair (.int .i64) (.pair (.int .i64) .str))))))) (.slice .str)))) (.slice (.slice (.slice (.pair (.int .i64) (.pair (.int .i64) .str)))))) (.pair (.int .i64) (.int .i64))) (.pair (.pair (.pair (.slice (.pair .str (.pair (.slice (.pair .str (.pair (.int .i64) (.pair .bool (.pair .bool (.pair (.int .i64) (.pair (.int .i64) .str))))))) (.slice .str)))) (.slice (.slice (.slice (.pair (.int .i64) (.pair (.int .i64) .str)))))) (.pair (.int .i64) (.int .i64))) (.pair (.slice (.slice (.int .u8))) (.slice (.int .i64))))))) true]:=by kernel_rfl
 rw[d]at h;obtain⟨b,t0,vals,rfl,g,h⟩:=Z4o.one h;obtain rfl:=Z4o.none h;exact(run_eq b t0 Z5Z).trans ((jrW b g (λf=>Z5Z [⟨.bool,false,f,[]⟩] [] [])).trans rfl)
set_option maxRecDepth 100000 in
theorem lifted (i:Os)(b:i.Started)(H:Type)(enc:TypeId×Value->H) :
  ReturnsInHanded {} Tryz.checked i 3 .any (Rows.fnExactWorldOkSpec.pre6 enc Tryz.prog Tryz.f3 Rows.fnExactWorldOkRow.domain false) (Rows.fnExactWorldOkSpec.post enc Tryz.prog Tryz.f3 false true false false):=by
 refine returnsInHanded_of_change (C:=Tryz.checked) own b (by kernel_rfl) Tryz.func3
  (ChangeSpec.witness6 (enc:=enc) (C:=Tryz.checked) false ⟨#[],#[.agg #[.slice none 0 0,.slice none 0 0,.slice none 0 0,.slice none 0 0,.int .i64 0,.int .i64 0,.slice none 0 0,.slice none 0 0,.int .i64 0,.int .i64 0,.slice none 0 0,.slice none 0 0]],[]⟩ 8 (by kernel_rfl) (by kernel_rfl) (by kernel_rfl) (by kernel_rfl)) ?_
 intro W base args g gs f d j _ _;exact Z9F j2t laidOut jfo (by kernel_rfl) (tb:=4) (by kernel_rfl) Tryz.underlying4 (by kernel_rfl) (by kernel_rfl) (λg h=>by
  match g,h with
  | [k],_=>rfl) pure d j
theorem and_t {a b:Bool}(d:a=true)(f:b=true):(a&&b)=true:=by rw[d,f];rfl
theorem c0:(Rows.fnExactWorldOkRow.wf (OpenSpec.ofChange Rows.fnExactWorldOkSpec))=true:=by kernel_rfl
theorem c1:(laidOutB Tryz.checked.prog)=true:=by kernel_rfl
theorem c2:(mapsRowed Tryz.checked.prog)=true:=by kernel_rfl
theorem c3:(Tryz.f3.params.all (Tryz.checked.prog.readableRec ·))=true:=by kernel_rfl
theorem c4:(namedTie Tryz.checked.prog Rows.fnExactWorldOkRow.named Rows.fnExactWorldOkSpec.vars)=true:=by kernel_rfl
theorem c5:(Rows.fnExactWorldOkRow.stops==[])=true:=by kernel_rfl
theorem c6:(Tryz.checked.prog.stops==[])=true:=by kernel_rfl
theorem c7:(Rows.fnExactWorldOkRow.knobs==[])=true:=by kernel_rfl
theorem c8:(Tryz.checked.prog.stopKnobs==[])=true:=by kernel_rfl
theorem c9:(Rows.fnExactWorldOkRow.inPlace==Tryz.checked.prog.inPlace 3)=true:=by kernel_rfl
theorem c10:(Rows.fnExactWorldOkRow.unfollowed==Tryz.checked.prog.unfollowed 3)=true:=by kernel_rfl
theorem c11:(Rows.fnExactWorldOkRow.recurses==Tryz.checked.prog.recurses 3)=true:=by kernel_rfl
theorem c12:(Rows.fnExactWorldOkRow.named==Tryz.checked.prog.varsNamed 3)=true:=by kernel_rfl
theorem c13:(Rows.fnExactWorldOkRow.maps==(Tryz.f3.params.toList++Rows.fnExactWorldOkSpec.plain.varTypes Tryz.checked.prog).any (Tryz.checked.prog.mapsRec ·))=true:=by kernel_rfl
theorem c14:(Rows.fnExactWorldOkRow.ifaces==(Tryz.f3.params.toList++Rows.fnExactWorldOkSpec.plain.varTypes Tryz.checked.prog).any (Tryz.checked.prog.ifacesRec ·))=true:=by kernel_rfl
theorem c15:(Rows.fnExactWorldOkRow.mapsOut==Tryz.checked.prog.mapsAmong Tryz.f3.resultTypes.toList)=true:=by kernel_rfl
theorem c16:(Rows.fnExactWorldOkRow.loops==(Tryz.f3.params.toList++Rows.fnExactWorldOkSpec.plain.varTypes Tryz.checked.prog).any (Tryz.checked.prog.loopsFrom ·))=true:=by kernel_rfl
theorem c17:(Rows.fnExactWorldOkRow.wideKeys==(Tryz.f3.params.toList++Rows.fnExactWorldOkSpec.plain.varTypes Tryz.checked.prog++Tryz.f3.resultTypes.toList).any (Tryz.checked.prog.wideKeysFrom ·))=true:=by kernel_rfl
theorem c18:(Rows.fnExactWorldOkSpec.vars.all (Tryz.checked.prog.varReadable ·))=true:=by kernel_rfl
theorem c19:(Tryz.f3.resultTypes.all (λt=>Tryz.checked.prog.readableRec t&&decide (t<Tryz.checked.prog.types.size)))=true:=by kernel_rfl
theorem c20:(Rows.fnExactWorldOkRow.ifacesOut==Tryz.f3.resultTypes.toList.any (Tryz.checked.prog.ifacesRec ·))=true:=by kernel_rfl
theorem c21:(Rows.fnExactWorldOkRow.loopsOut==Tryz.f3.resultTypes.toList.any (Tryz.checked.prog.loopsFrom ·))=true:=by kernel_rfl
theorem c22:(Rows.fnExactWorldOkRow.plainKeys==Tryz.checked.prog.plainKeys)=true:=by kernel_rfl
theorem c23:(Rows.fnExactWorldOkRow.shortTexts.isNone)=true:=by kernel_rfl
theorem c24:(Tryz.checked.prog.stopsHeard)=true:=by kernel_rfl
theorem c25:(Tryz.checked.prog.mayEnter)=true:=by kernel_rfl
theorem c26:(Rows.fnExactWorldOkRow.lifted==Tryz.checked.prog.liftsFinal)=true:=by kernel_rfl
theorem c27:(Tryz.checked.prog.make==some Rows.fnExactWorldOkRow.make)=true:=by kernel_rfl
theorem c29:(Rows.fnExactWorldOkRow.pinned==Rows.fnExactWorldOkRow.pinnedBy)=true:=by kernel_rfl
theorem c30:(Rows.fnExactWorldOkRow.veiled==(Tryz.f3.params.toList++Rows.fnExactWorldOkSpec.plain.varTypes Tryz.checked.prog++Tryz.f3.resultTypes.toList).any (Tryz.checked.prog.veiledRec ·))=true:=by kernel_rfl
theorem c31:(Rows.fnExactWorldOkRow.veiledFits Tryz.checked.prog Tryz.f3.params.toList (Tryz.f3.params.toList++Rows.fnExactWorldOkSpec.plain.varTypes Tryz.checked.prog++Tryz.f3.resultTypes.toList))=true:=by kernel_rfl
theorem closed:joinedFacts Tryz.checked.prog 3 Tryz.f3 Rows.fnExactWorldOkSpec Rows.fnExactWorldOkRow=true:=by
 unfold joinedFacts;exact and_t (and_t (and_t (and_t (and_t (and_t (and_t (and_t (and_t (and_t (and_t (and_t (and_t (and_t (and_t (and_t (and_t (and_t (and_t (and_t (and_t (and_t (and_t (and_t (and_t (and_t (and_t (and_t (and_t (and_t (and_t c0 c1) c2) c3) c4) c5) c6) c7) c8) c9) c10) c11) c12) c13) c14) c15) c16) c17) c18) c19) c20) c21) c22) c23) c24) c25) c26) c27) (by kernel_rfl)) c29) c30) c31
theorem named:Tryz.checked.prog.funcNamed Rows.fnExactWorldOkRow.func=some 3:=by kernel_rfl
theorem wrapper:Tryz.f3.isWrapper Tryz.checked.prog Rows.fnExactWorldOkRow.wrapper Rows.fnExactWorldOkRow.mainSum:=by unfold Func.isWrapper;first | (rw[QM (by decide +kernel)];kernel_rfl) | (rw[QN (by decide +kernel)];exact⟨rfl,rfl⟩)
theorem over:Rows.fnExactWorldOkRow.holds Tryz.pinned (OpenSpec.ofChange Rows.fnExactWorldOkSpec):=
 OpenClaim.holds_of_wide 3 Tryz.f3 rfl rfl rfl rfl rfl rfl rfl ⟨rfl,rfl,rfl,rfl,rfl⟩ rfl rfl rfl rfl rfl named Tryz.func3 closed
  (QT (by kernel_rfl)) wrapper
  (λd b H enc _=>lifted d b H enc)
end Go.Proofs.YtiaipepkkjlccaaGreat.fnExactWorldOk
namespace Go.Proofs.YtiaipepkkjlccaaGreat
theorem fnExactWorldOk_holds:Rows.FnExactWorldOkSaid:=fnExactWorldOk.over
end Go.Proofs.YtiaipepkkjlccaaGreat
