/-
  Program's code interpreted over typed values; printed texts; plain laws. No conditions.
-/
import Derived.Test.YtiaipepkkjlccaaGreatPDo
import Derived.Test.YtiaipepkkjlccaaGreatRows
set_option linter.unusedVariables false
set_option linter.unusedSimpArgs false
namespace Go.Proofs.YtiaipepkkjlccaaGreat.fnExactPubDecode
open Go Go.PI Go.PI.G Go.Proofs
theorem own:ownKnob Tryz.prog.godebug=none:=by kernel_rfl
theorem laidOut:laidOutB Tryz.prog=true:=by kernel_rfl
theorem run_eq (b:List ByteArray)(t0:List Tag)(d:List (Int×Int×Int×ByteArray×(List (Int×Int×ByteArray))×(List (Int×Int×ByteArray))×Int×ByteArray×(List (ByteArray×Int×Bool×Bool×Int×Int×ByteArray))×List ByteArray×ByteArray×ByteArray))(h:List Tag)(f:Int)(i:List Tag)(k:List TVal->List TVal->List TVal->Res):j1t.run [⟨(.slice .str),true,b,t0⟩,⟨(.slice (.pair (.int .i64) (.pair (.int .i64) (.pair (.int .i64) (.pair .str (.pair (.slice (.pair (.int .i64) (.pair (.int .i64) .str))) (.pair (.slice (.pair (.int .i64) (.pair (.int .i64) .str))) (.pair (.int .i64) (.pair .str (.pair (.slice (.pair .str (.pair (.int .i64) (.pair .bool (.pair .bool (.pair (.int .i64) (.pair (.int .i64) .str))))))) (.pair (.slice .str) (.pair .str .str)))))))))))),false,d,h⟩,⟨(.int .i64),false,f,i⟩] [] k=j1T b d f (λ(g:Bool)=>k [⟨.bool,false,g,[]⟩] [] []):=by kernel_rfl
theorem pure (vals:List TVal)(h:Z4o j1t.modes vals):j1t.run vals [] Z5Z=some ():=by
 have g:j1t.modes=[.borrow (.slice .str) true,.borrow (.slice (.pair (.int .i64) (.pair (.int .i64) (.pair (.int .i64) (.pair .str (.pair (.slice (.pair (.int .i64) (.pair (.int .i64) .str))) (.pair (.slice (.pair (.int .i64) (.pair (.int .i64) .str))) (.pair (.int .i64) (.pair .str (.pair (.slice (.pair .str (.pair (.int .i64) (.pair .bool (.pair .bool (.pair (.int .i64) (.pair (.int .i64) .str))))))) (.pair (.slice .str) (.pair .str .str)))))))))))) false,.borrow (.int .i64) false]:=by kernel_rfl
 rw[g]at h;obtain⟨b,t0,vals,rfl,l,h⟩:=Z4o.one h;obtain⟨d,j,vals,rfl,w1,h⟩:=Z4o.one h;obtain⟨f,k,vals,rfl,w2,h⟩:=Z4o.one h;obtain rfl:=Z4o.none h;exact(run_eq b t0 d j f k Z5Z).trans ((jvE b l d w1 f w2 (λi=>Z5Z [⟨.bool,false,i,[]⟩] [] [])).trans rfl)
set_option maxRecDepth 100000 in
theorem lifted (i:Os)(b:i.Started)(H:Type)(enc:TypeId×Value->H) :
  ReturnsInHanded {} Tryz.checked i 4 .any (Rows.fnExactPubDecodeSpec.pre6 enc Tryz.prog Tryz.f4 Rows.fnExactPubDecodeRow.domain false) (Rows.fnExactPubDecodeSpec.post enc Tryz.prog Tryz.f4 false true false false):=by
 refine returnsInHanded_of_change (C:=Tryz.checked) own b (by kernel_rfl) Tryz.func4
  (ChangeSpec.witness6 (enc:=enc) (C:=Tryz.checked) false ⟨#[],#[.agg #[.slice none 0 0],.slice none 0 0,.int .i64 0],[]⟩ 8 (by kernel_rfl) (by kernel_rfl) (by kernel_rfl) (by kernel_rfl)) ?_
 intro W base args g gs f d j _ _;exact Z9F j2e laidOut jhG (by kernel_rfl) (tb:=4) (by kernel_rfl) Tryz.underlying4 (by kernel_rfl) (by kernel_rfl) (λg h=>by
  match g,h with
  | [k,l,m],_=>rfl) pure d j
theorem and_t {a b:Bool}(d:a=true)(f:b=true):(a&&b)=true:=by rw[d,f];rfl
theorem c0:(Rows.fnExactPubDecodeRow.wf (OpenSpec.ofChange Rows.fnExactPubDecodeSpec))=true:=by kernel_rfl
theorem c1:(laidOutB Tryz.checked.prog)=true:=by kernel_rfl
theorem c2:(mapsRowed Tryz.checked.prog)=true:=by kernel_rfl
theorem c3:(Tryz.f4.params.all (Tryz.checked.prog.readableRec ·))=true:=by kernel_rfl
theorem c4:(namedTie Tryz.checked.prog Rows.fnExactPubDecodeRow.named Rows.fnExactPubDecodeSpec.vars)=true:=by kernel_rfl
theorem c5:(Rows.fnExactPubDecodeRow.stops==[])=true:=by kernel_rfl
theorem c6:(Tryz.checked.prog.stops==[])=true:=by kernel_rfl
theorem c7:(Rows.fnExactPubDecodeRow.knobs==[])=true:=by kernel_rfl
theorem c8:(Tryz.checked.prog.stopKnobs==[])=true:=by kernel_rfl
theorem c9:(Rows.fnExactPubDecodeRow.inPlace==Tryz.checked.prog.inPlace 4)=true:=by kernel_rfl
theorem c10:(Rows.fnExactPubDecodeRow.unfollowed==Tryz.checked.prog.unfollowed 4)=true:=by kernel_rfl
theorem c11:(Rows.fnExactPubDecodeRow.recurses==Tryz.checked.prog.recurses 4)=true:=by kernel_rfl
theorem c12:(Rows.fnExactPubDecodeRow.named==Tryz.checked.prog.varsNamed 4)=true:=by kernel_rfl
theorem c13:(Rows.fnExactPubDecodeRow.maps==(Tryz.f4.params.toList++Rows.fnExactPubDecodeSpec.plain.varTypes Tryz.checked.prog).any (Tryz.checked.prog.mapsRec ·))=true:=by kernel_rfl
theorem c14:(Rows.fnExactPubDecodeRow.ifaces==(Tryz.f4.params.toList++Rows.fnExactPubDecodeSpec.plain.varTypes Tryz.checked.prog).any (Tryz.checked.prog.ifacesRec ·))=true:=by kernel_rfl
theorem c15:(Rows.fnExactPubDecodeRow.mapsOut==Tryz.checked.prog.mapsAmong Tryz.f4.resultTypes.toList)=true:=by kernel_rfl
theorem c16:(Rows.fnExactPubDecodeRow.loops==(Tryz.f4.params.toList++Rows.fnExactPubDecodeSpec.plain.varTypes Tryz.checked.prog).any (Tryz.checked.prog.loopsFrom ·))=true:=by kernel_rfl
theorem c17:(Rows.fnExactPubDecodeRow.wideKeys==(Tryz.f4.params.toList++Rows.fnExactPubDecodeSpec.plain.varTypes Tryz.checked.prog++Tryz.f4.resultTypes.toList).any (Tryz.checked.prog.wideKeysFrom ·))=true:=by kernel_rfl
theorem c18:(Rows.fnExactPubDecodeSpec.vars.all (Tryz.checked.prog.varReadable ·))=true:=by kernel_rfl
theorem c19:(Tryz.f4.resultTypes.all (λt=>Tryz.checked.prog.readableRec t&&decide (t<Tryz.checked.prog.types.size)))=true:=by kernel_rfl
theorem c20:(Rows.fnExactPubDecodeRow.ifacesOut==Tryz.f4.resultTypes.toList.any (Tryz.checked.prog.ifacesRec ·))=true:=by kernel_rfl
theorem c21:(Rows.fnExactPubDecodeRow.loopsOut==Tryz.f4.resultTypes.toList.any (Tryz.checked.prog.loopsFrom ·))=true:=by kernel_rfl
theorem c22:(Rows.fnExactPubDecodeRow.plainKeys==Tryz.checked.prog.plainKeys)=true:=by kernel_rfl
theorem c23:(Rows.fnExactPubDecodeRow.shortTexts.isNone)=true:=by kernel_rfl
theorem c24:(Tryz.checked.prog.stopsHeard)=true:=by kernel_rfl
theorem c25:(Tryz.checked.prog.mayEnter)=true:=by kernel_rfl
theorem c26:(Rows.fnExactPubDecodeRow.lifted==Tryz.checked.prog.liftsFinal)=true:=by kernel_rfl
theorem c27:(Tryz.checked.prog.make==some Rows.fnExactPubDecodeRow.make)=true:=by kernel_rfl
theorem c29:(Rows.fnExactPubDecodeRow.pinned==Rows.fnExactPubDecodeRow.pinnedBy)=true:=by kernel_rfl
theorem c30:(Rows.fnExactPubDecodeRow.veiled==(Tryz.f4.params.toList++Rows.fnExactPubDecodeSpec.plain.varTypes Tryz.checked.prog++Tryz.f4.resultTypes.toList).any (Tryz.checked.prog.veiledRec ·))=true:=by kernel_rfl
theorem c31:(Rows.fnExactPubDecodeRow.veiledFits Tryz.checked.prog Tryz.f4.params.toList (Tryz.f4.params.toList++Rows.fnExactPubDecodeSpec.plain.varTypes Tryz.checked.prog++Tryz.f4.resultTypes.toList))=true:=by kernel_rfl
theorem closed:joinedFacts Tryz.checked.prog 4 Tryz.f4 Rows.fnExactPubDecodeSpec Rows.fnExactPubDecodeRow=true:=by
 unfold joinedFacts;exact and_t (and_t (and_t (and_t (and_t (and_t (and_t (and_t (and_t (and_t (and_t (and_t (and_t (and_t (and_t (and_t (and_t (and_t (and_t (and_t (and_t (and_t (and_t (and_t (and_t (and_t (and_t (and_t (and_t (and_t (and_t c0 c1) c2) c3) c4) c5) c6) c7) c8) c9) c10) c11) c12) c13) c14) c15) c16) c17) c18) c19) c20) c21) c22) c23) c24) c25) c26) c27) (by kernel_rfl)) c29) c30) c31
theorem named:Tryz.checked.prog.funcNamed Rows.fnExactPubDecodeRow.func=some 4:=by kernel_rfl
theorem wrapper:Tryz.f4.isWrapper Tryz.checked.prog Rows.fnExactPubDecodeRow.wrapper Rows.fnExactPubDecodeRow.mainSum:=by unfold Func.isWrapper;first | (rw[QM (by decide +kernel)];kernel_rfl) | (rw[QN (by decide +kernel)];exact⟨rfl,rfl⟩)
theorem over:Rows.fnExactPubDecodeRow.holds Tryz.pinned (OpenSpec.ofChange Rows.fnExactPubDecodeSpec):=
 OpenClaim.holds_of_wide 4 Tryz.f4 rfl rfl rfl rfl rfl rfl rfl ⟨rfl,rfl,rfl,rfl,rfl⟩ rfl rfl rfl rfl rfl named Tryz.func4 closed
  (QT (by kernel_rfl)) wrapper
  (λd b H enc _=>lifted d b H enc)
end Go.Proofs.YtiaipepkkjlccaaGreat.fnExactPubDecode
namespace Go.Proofs.YtiaipepkkjlccaaGreat
theorem fnExactPubDecode_holds:Rows.FnExactPubDecodeSaid:=fnExactPubDecode.over
end Go.Proofs.YtiaipepkkjlccaaGreat
