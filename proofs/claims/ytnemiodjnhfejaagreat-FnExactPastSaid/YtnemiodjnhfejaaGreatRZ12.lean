/-
  Program's code interpreted over typed values; printed texts; plain laws. No conditions.
-/
import Derived.Test.YtnemiodjnhfejaaGreatPTn
import Derived.Test.YtnemiodjnhfejaaGreatRows
set_option linter.unusedVariables false
namespace Go.Proofs.YtnemiodjnhfejaaGreat.fnExactPast
open Go Go.PI Go.PI.G Go.Proofs
theorem own:ownKnob Tryz.prog.godebug=none:=by kernel_rfl
theorem laidOut:laidOutB Tryz.prog=true:=by kernel_rfl
theorem run_eq (b:List (Int×Int×Int×ByteArray×(List (Int×Int×ByteArray))×(List (Int×Int×ByteArray))×Int×ByteArray×(List (ByteArray×Int×Bool×Bool×Int×Int×ByteArray))×List ByteArray×ByteArray×ByteArray)) (t0:List Tag) (d:ByteArray) (h:List Tag) (f:List (Int×Int×ByteArray)) (i:List Tag) (k:List TVal->List TVal->List TVal->Res):j2J.run [⟨(.slice (.pair (.int .i64) (.pair (.int .i64) (.pair (.int .i64) (.pair .str (.pair (.slice (.pair (.int .i64) (.pair (.int .i64) .str))) (.pair (.slice (.pair (.int .i64) (.pair (.int .i64) .str))) (.pair (.int .i64) (.pair .str (.pair (.slice (.pair .str (.pair (.int .i64) (.pair .bool (.pair .bool (.pair (.int .i64) (.pair (.int .i64) .str))))))) (.pair (.slice .str) (.pair .str .str)))))))))))),false,b,t0⟩,⟨.str,false,d,h⟩,⟨(.slice (.pair (.int .i64) (.pair (.int .i64) .str))),false,f,i⟩] [] k=j46 b d f (λ(g:Bool)=>k [⟨.bool,false,g,[]⟩] [] []):=by kernel_rfl
theorem pure (vals:List TVal) (h:Z4p j2J.modes vals):j2J.run vals [] Z60=some ():=by
 have g:j2J.modes=[.borrow (.slice (.pair (.int .i64) (.pair (.int .i64) (.pair (.int .i64) (.pair .str (.pair (.slice (.pair (.int .i64) (.pair (.int .i64) .str))) (.pair (.slice (.pair (.int .i64) (.pair (.int .i64) .str))) (.pair (.int .i64) (.pair .str (.pair (.slice (.pair .str (.pair (.int .i64) (.pair .bool (.pair .bool (.pair (.int .i64) (.pair (.int .i64) .str))))))) (.pair (.slice .str) (.pair .str .str)))))))))))) false,.borrow .str false,.borrow (.slice (.pair (.int .i64) (.pair (.int .i64) .str))) false]:=by kernel_rfl
 rw [g] at h
 obtain ⟨b,t0,vals,rfl,l,h⟩:=Z4p.one h
 obtain ⟨d,j,vals,rfl,w1,h⟩:=Z4p.one h
 obtain ⟨f,k,vals,rfl,w2,h⟩:=Z4p.one h
 obtain rfl:=Z4p.none h
 exact (run_eq b t0 d j f k Z60).trans ((jth b l d w1 f w2 (λi=>Z60 [⟨.bool,false,i,[]⟩] [] [])).trans rfl)
set_option maxRecDepth 100000 in
theorem lifted (i:Os) (b:i.Started) (H:Type) (enc:TypeId×Value->H) :
  ReturnsInHanded {} Tryz.checked i 12 .any (Rows.fnExactPastSpec.pre6 enc Tryz.prog Tryz.f12 Rows.fnExactPastRow.domain false) (Rows.fnExactPastSpec.post enc Tryz.prog Tryz.f12 false true false false):=by
 refine returnsInHanded_of_change (C:=Tryz.checked) own b (by kernel_rfl) Tryz.func12
  (ChangeSpec.witness6 (enc:=enc) (C:=Tryz.checked) false ⟨#[],#[.slice none 0 0,.string ⟨#[]⟩,.slice none 0 0],[]⟩ 8 (by kernel_rfl) (by kernel_rfl) (by kernel_rfl) (by kernel_rfl)) ?_
 intro W base args g gs f d j _ _
 exact Z9G j1y laidOut jiu (by kernel_rfl) (J:=4) (by kernel_rfl) Tryz.underlying4 (by kernel_rfl) (by kernel_rfl) (λg h=>by
  match g,h with
  | [k,l,m],_=>rfl) pure d j
theorem and_t {a b:Bool} (d:a=true) (f:b=true):(a&&b)=true:=by rw [d,f];rfl
theorem c0:(Rows.fnExactPastRow.wf (OpenSpec.ofChange Rows.fnExactPastSpec))=true:=by kernel_rfl
theorem c1:(laidOutB Tryz.checked.prog)=true:=by kernel_rfl
theorem c2:(mapsRowed Tryz.checked.prog)=true:=by kernel_rfl
theorem c3:(Tryz.f12.params.all (Tryz.checked.prog.readableRec ·))=true:=by kernel_rfl
theorem c4:(namedTie Tryz.checked.prog Rows.fnExactPastRow.named Rows.fnExactPastSpec.vars)=true:=by kernel_rfl
theorem c5:(Rows.fnExactPastRow.stops==[])=true:=by kernel_rfl
theorem c6:(Tryz.checked.prog.stops==[])=true:=by kernel_rfl
theorem c7:(Rows.fnExactPastRow.knobs==[])=true:=by kernel_rfl
theorem c8:(Tryz.checked.prog.stopKnobs==[])=true:=by kernel_rfl
theorem c9:(Rows.fnExactPastRow.inPlace==Tryz.checked.prog.inPlace 12)=true:=by kernel_rfl
theorem c10:(Rows.fnExactPastRow.unfollowed==Tryz.checked.prog.unfollowed 12)=true:=by kernel_rfl
theorem c11:(Rows.fnExactPastRow.recurses==Tryz.checked.prog.recurses 12)=true:=by kernel_rfl
theorem c12:(Rows.fnExactPastRow.named==Tryz.checked.prog.varsNamed 12)=true:=by kernel_rfl
theorem c13:(Rows.fnExactPastRow.maps==(Tryz.f12.params.toList++Rows.fnExactPastSpec.plain.varTypes Tryz.checked.prog).any (Tryz.checked.prog.mapsRec ·))=true:=by kernel_rfl
theorem c14:(Rows.fnExactPastRow.ifaces==(Tryz.f12.params.toList++Rows.fnExactPastSpec.plain.varTypes Tryz.checked.prog).any (Tryz.checked.prog.ifacesRec ·))=true:=by kernel_rfl
theorem c15:(Rows.fnExactPastRow.mapsOut==Tryz.checked.prog.mapsAmong Tryz.f12.resultTypes.toList)=true:=by kernel_rfl
theorem c16:(Rows.fnExactPastRow.loops==(Tryz.f12.params.toList++Rows.fnExactPastSpec.plain.varTypes Tryz.checked.prog).any (Tryz.checked.prog.loopsFrom ·))=true:=by kernel_rfl
theorem c17:(Rows.fnExactPastRow.wideKeys==(Tryz.f12.params.toList++Rows.fnExactPastSpec.plain.varTypes Tryz.checked.prog++Tryz.f12.resultTypes.toList).any (Tryz.checked.prog.wideKeysFrom ·))=true:=by kernel_rfl
theorem c18:(Rows.fnExactPastSpec.vars.all (Tryz.checked.prog.varReadable ·))=true:=by kernel_rfl
theorem c19:(Tryz.f12.resultTypes.all (λt=>Tryz.checked.prog.readableRec t&&decide (t<Tryz.checked.prog.types.size)))=true:=by kernel_rfl
theorem c20:(Rows.fnExactPastRow.ifacesOut==Tryz.f12.resultTypes.toList.any (Tryz.checked.prog.ifacesRec ·))=true:=by kernel_rfl
theorem c21:(Rows.fnExactPastRow.loopsOut==Tryz.f12.resultTypes.toList.any (Tryz.checked.prog.loopsFrom ·))=true:=by kernel_rfl
theorem c22:(Rows.fnExactPastRow.plainKeys==Tryz.checked.prog.plainKeys)=true:=by kernel_rfl
theorem c23:(Rows.fnExactPastRow.shortTexts.isNone)=true:=by kernel_rfl
theorem c24:(Tryz.checked.prog.stopsHeard)=true:=by kernel_rfl
theorem c25:(Tryz.checked.prog.mayEnter)=true:=by kernel_rfl
theorem c26:(Rows.fnExactPastRow.lifted==Tryz.checked.prog.liftsFinal)=true:=by kernel_rfl
theorem c27:(Tryz.checked.prog.make==some Rows.fnExactPastRow.make)=true:=by kernel_rfl
theorem c29:(Rows.fnExactPastRow.pinned==Rows.fnExactPastRow.pinnedBy)=true:=by kernel_rfl
theorem c30:(Rows.fnExactPastRow.veiled==(Tryz.f12.params.toList++Rows.fnExactPastSpec.plain.varTypes Tryz.checked.prog++Tryz.f12.resultTypes.toList).any (Tryz.checked.prog.veiledRec ·))=true:=by kernel_rfl
theorem c31:(Rows.fnExactPastRow.veiledFits Tryz.checked.prog Tryz.f12.params.toList (Tryz.f12.params.toList++Rows.fnExactPastSpec.plain.varTypes Tryz.checked.prog++Tryz.f12.resultTypes.toList))=true:=by kernel_rfl
theorem closed:joinedFacts Tryz.checked.prog 12 Tryz.f12 Rows.fnExactPastSpec Rows.fnExactPastRow=true:=by
 unfold joinedFacts
 exact and_t (and_t (and_t (and_t (and_t (and_t (and_t (and_t (and_t (and_t (and_t (and_t (and_t (and_t (and_t (and_t (and_t (and_t (and_t (and_t (and_t (and_t (and_t (and_t (and_t (and_t (and_t (and_t (and_t (and_t (and_t c0 c1) c2) c3) c4) c5) c6) c7) c8) c9) c10) c11) c12) c13) c14) c15) c16) c17) c18) c19) c20) c21) c22) c23) c24) c25) c26) c27) (by kernel_rfl)) c29) c30) c31
theorem named:Tryz.checked.prog.funcNamed Rows.fnExactPastRow.func=some 12:=by kernel_rfl
theorem wrapper:Tryz.f12.isWrapper Tryz.checked.prog Rows.fnExactPastRow.wrapper Rows.fnExactPastRow.mainSum:=by unfold Func.isWrapper;first | (rw [if_pos (by decide +kernel)];kernel_rfl) | (rw [if_neg (by decide +kernel)];exact ⟨rfl,rfl⟩)
theorem over:Rows.fnExactPastRow.holds Tryz.pinned (OpenSpec.ofChange Rows.fnExactPastSpec):=
 OpenClaim.holds_of_wide 12 Tryz.f12 rfl rfl rfl rfl rfl rfl rfl ⟨rfl,rfl,rfl,rfl,rfl⟩ rfl rfl rfl rfl rfl named Tryz.func12 closed
  (of_decide_eq_true (by kernel_rfl)) wrapper
  (λd b H enc _=>lifted d b H enc)
end Go.Proofs.YtnemiodjnhfejaaGreat.fnExactPast
namespace Go.Proofs.YtnemiodjnhfejaaGreat
theorem fnExactPast_holds:Rows.FnExactPastSaid:=fnExactPast.over
end Go.Proofs.YtnemiodjnhfejaaGreat
