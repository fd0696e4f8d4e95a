/-
  Program's code interpreted over typed values; printed texts; plain laws. No conditions.
-/
import Derived.Test.YtnemiodjnhfejaaGreatRWn
import Derived.Test.YtnemiodjnhfejaaGreatRows
set_option linter.unusedVariables false
namespace Go.Proofs.YtnemiodjnhfejaaGreat.fnExactRowWhen
open Go Go.PI Go.PI.G Go.Proofs
theorem own:ownKnob Tryz.prog.godebug=none:=by kernel_rfl
theorem laidOut:laidOutB Tryz.prog=true:=by kernel_rfl
theorem run_eq (b:List (Int×Int×Int×ByteArray×(List (Int×Int×ByteArray))×(List (Int×Int×ByteArray))×Int×ByteArray×(List (ByteArray×Int×Bool×Bool×Int×Int×ByteArray))×List ByteArray×ByteArray×ByteArray)) (t0:List Tag) (d:ByteArray) (i:List Tag) (f:List (Int×Int×ByteArray)) (j:List Tag) (g:Int) (l:List Tag) (k:List TVal->List TVal->List TVal->Res):j1E.run [⟨(.slice (.pair (.int .i64) (.pair (.int .i64) (.pair (.int .i64) (.pair .str (.pair (.slice (.pair (.int .i64) (.pair (.int .i64) .str))) (.pair (.slice (.pair (.int .i64) (.pair (.int .i64) .str))) (.pair (.int .i64) (.pair .str (.pair (.slice (.pair .str (.pair (.int .i64) (.pair .bool (.pair .bool (.pair (.int .i64) (.pair (.int .i64) .str))))))) (.pair (.slice .str) (.pair .str .str)))))))))))),false,b,t0⟩,⟨.str,false,d,i⟩,⟨(.slice (.pair (.int .i64) (.pair (.int .i64) .str))),false,f,j⟩,⟨(.int .i64),false,g,l⟩] [] k=j2f b d f g (λ(h:Bool)=>k [⟨.bool,false,h,[]⟩] [] []):=by kernel_rfl
theorem pure (vals:List TVal) (h:Z4p j1E.modes vals):j1E.run vals [] Z60=some ():=by
 have i:j1E.modes=[.borrow (.slice (.pair (.int .i64) (.pair (.int .i64) (.pair (.int .i64) (.pair .str (.pair (.slice (.pair (.int .i64) (.pair (.int .i64) .str))) (.pair (.slice (.pair (.int .i64) (.pair (.int .i64) .str))) (.pair (.int .i64) (.pair .str (.pair (.slice (.pair .str (.pair (.int .i64) (.pair .bool (.pair .bool (.pair (.int .i64) (.pair (.int .i64) .str))))))) (.pair (.slice .str) (.pair .str .str)))))))))))) false,.borrow .str false,.borrow (.slice (.pair (.int .i64) (.pair (.int .i64) .str))) false,.borrow (.int .i64) false]:=by kernel_rfl
 rw [i] at h
 obtain ⟨b,t0,vals,rfl,n,h⟩:=Z4p.one h
 obtain ⟨d,k,vals,rfl,w1,h⟩:=Z4p.one h
 obtain ⟨f,l,vals,rfl,w2,h⟩:=Z4p.one h
 obtain ⟨g,m,vals,rfl,p,h⟩:=Z4p.one h
 obtain rfl:=Z4p.none h
 exact (run_eq b t0 d k f l g m Z60).trans ((jqF b n d w1 f w2 g p (λj=>Z60 [⟨.bool,false,j,[]⟩] [] [])).trans rfl)
set_option maxRecDepth 100000 in
theorem lifted (i:Os) (b:i.Started) (H:Type) (enc:TypeId×Value->H) :
  ReturnsInHanded {} Tryz.checked i 10 .any (Rows.fnExactRowWhenSpec.pre6 enc Tryz.prog Tryz.f10 Rows.fnExactRowWhenRow.domain false) (Rows.fnExactRowWhenSpec.post enc Tryz.prog Tryz.f10 false true false false):=by
 refine returnsInHanded_of_change (C:=Tryz.checked) own b (by kernel_rfl) Tryz.func10
  (ChangeSpec.witness6 (enc:=enc) (C:=Tryz.checked) false ⟨#[],#[.slice none 0 0,.string ⟨#[]⟩,.slice none 0 0,.int .i64 0],[]⟩ 8 (by kernel_rfl) (by kernel_rfl) (by kernel_rfl) (by kernel_rfl)) ?_
 intro W base args g gs f d j _ _
 exact Z9G j1v laidOut jfF (by kernel_rfl) (J:=4) (by kernel_rfl) Tryz.underlying4 (by kernel_rfl) (by kernel_rfl) (λg h=>by
  match g,h with
  | [k,l,m,n],_=>rfl) pure d j
theorem and_t {a b:Bool} (d:a=true) (f:b=true):(a&&b)=true:=by rw [d,f];rfl
theorem c0:(Rows.fnExactRowWhenRow.wf (OpenSpec.ofChange Rows.fnExactRowWhenSpec))=true:=by kernel_rfl
theorem c1:(laidOutB Tryz.checked.prog)=true:=by kernel_rfl
theorem c2:(mapsRowed Tryz.checked.prog)=true:=by kernel_rfl
theorem c3:(Tryz.f10.params.all (Tryz.checked.prog.readableRec ·))=true:=by kernel_rfl
theorem c4:(namedTie Tryz.checked.prog Rows.fnExactRowWhenRow.named Rows.fnExactRowWhenSpec.vars)=true:=by kernel_rfl
theorem c5:(Rows.fnExactRowWhenRow.stops==[])=true:=by kernel_rfl
theorem c6:(Tryz.checked.prog.stops==[])=true:=by kernel_rfl
theorem c7:(Rows.fnExactRowWhenRow.knobs==[])=true:=by kernel_rfl
theorem c8:(Tryz.checked.prog.stopKnobs==[])=true:=by kernel_rfl
theorem c9:(Rows.fnExactRowWhenRow.inPlace==Tryz.checked.prog.inPlace 10)=true:=by kernel_rfl
theorem c10:(Rows.fnExactRowWhenRow.unfollowed==Tryz.checked.prog.unfollowed 10)=true:=by kernel_rfl
theorem c11:(Rows.fnExactRowWhenRow.recurses==Tryz.checked.prog.recurses 10)=true:=by kernel_rfl
theorem c12:(Rows.fnExactRowWhenRow.named==Tryz.checked.prog.varsNamed 10)=true:=by kernel_rfl
theorem c13:(Rows.fnExactRowWhenRow.maps==(Tryz.f10.params.toList++Rows.fnExactRowWhenSpec.plain.varTypes Tryz.checked.prog).any (Tryz.checked.prog.mapsRec ·))=true:=by kernel_rfl
theorem c14:(Rows.fnExactRowWhenRow.ifaces==(Tryz.f10.params.toList++Rows.fnExactRowWhenSpec.plain.varTypes Tryz.checked.prog).any (Tryz.checked.prog.ifacesRec ·))=true:=by kernel_rfl
theorem c15:(Rows.fnExactRowWhenRow.mapsOut==Tryz.checked.prog.mapsAmong Tryz.f10.resultTypes.toList)=true:=by kernel_rfl
theorem c16:(Rows.fnExactRowWhenRow.loops==(Tryz.f10.params.toList++Rows.fnExactRowWhenSpec.plain.varTypes Tryz.checked.prog).any (Tryz.checked.prog.loopsFrom ·))=true:=by kernel_rfl
theorem c17:(Rows.fnExactRowWhenRow.wideKeys==(Tryz.f10.params.toList++Rows.fnExactRowWhenSpec.plain.varTypes Tryz.checked.prog++Tryz.f10.resultTypes.toList).any (Tryz.checked.prog.wideKeysFrom ·))=true:=by kernel_rfl
theorem c18:(Rows.fnExactRowWhenSpec.vars.all (Tryz.checked.prog.varReadable ·))=true:=by kernel_rfl
theorem c19:(Tryz.f10.resultTypes.all (λt=>Tryz.checked.prog.readableRec t&&decide (t<Tryz.checked.prog.types.size)))=true:=by kernel_rfl
theorem c20:(Rows.fnExactRowWhenRow.ifacesOut==Tryz.f10.resultTypes.toList.any (Tryz.checked.prog.ifacesRec ·))=true:=by kernel_rfl
theorem c21:(Rows.fnExactRowWhenRow.loopsOut==Tryz.f10.resultTypes.toList.any (Tryz.checked.prog.loopsFrom ·))=true:=by kernel_rfl
theorem c22:(Rows.fnExactRowWhenRow.plainKeys==Tryz.checked.prog.plainKeys)=true:=by kernel_rfl
theorem c23:(Rows.fnExactRowWhenRow.shortTexts.isNone)=true:=by kernel_rfl
theorem c24:(Tryz.checked.prog.stopsHeard)=true:=by kernel_rfl
theorem c25:(Tryz.checked.prog.mayEnter)=true:=by kernel_rfl
theorem c26:(Rows.fnExactRowWhenRow.lifted==Tryz.checked.prog.liftsFinal)=true:=by kernel_rfl
theorem c27:(Tryz.checked.prog.make==some Rows.fnExactRowWhenRow.make)=true:=by kernel_rfl
theorem c29:(Rows.fnExactRowWhenRow.pinned==Rows.fnExactRowWhenRow.pinnedBy)=true:=by kernel_rfl
theorem c30:(Rows.fnExactRowWhenRow.veiled==(Tryz.f10.params.toList++Rows.fnExactRowWhenSpec.plain.varTypes Tryz.checked.prog++Tryz.f10.resultTypes.toList).any (Tryz.checked.prog.veiledRec ·))=true:=by kernel_rfl
theorem c31:(Rows.fnExactRowWhenRow.veiledFits Tryz.checked.prog Tryz.f10.params.toList (Tryz.f10.params.toList++Rows.fnExactRowWhenSpec.plain.varTypes Tryz.checked.prog++Tryz.f10.resultTypes.toList))=true:=by kernel_rfl
theorem closed:joinedFacts Tryz.checked.prog 10 Tryz.f10 Rows.fnExactRowWhenSpec Rows.fnExactRowWhenRow=true:=by
 unfold joinedFacts
 exact and_t (and_t (and_t (and_t (and_t (and_t (and_t (and_t (and_t (and_t (and_t (and_t (and_t (and_t (and_t (and_t (and_t (and_t (and_t (and_t (and_t (and_t (and_t (and_t (and_t (and_t (and_t (and_t (and_t (and_t (and_t c0 c1) c2) c3) c4) c5) c6) c7) c8) c9) c10) c11) c12) c13) c14) c15) c16) c17) c18) c19) c20) c21) c22) c23) c24) c25) c26) c27) (by kernel_rfl)) c29) c30) c31
theorem named:Tryz.checked.prog.funcNamed Rows.fnExactRowWhenRow.func=some 10:=by kernel_rfl
theorem wrapper:Tryz.f10.isWrapper Tryz.checked.prog Rows.fnExactRowWhenRow.wrapper Rows.fnExactRowWhenRow.mainSum:=by unfold Func.isWrapper;first | (rw [if_pos (by decide +kernel)];kernel_rfl) | (rw [if_neg (by decide +kernel)];exact ⟨rfl,rfl⟩)
theorem over:Rows.fnExactRowWhenRow.holds Tryz.pinned (OpenSpec.ofChange Rows.fnExactRowWhenSpec):=
 OpenClaim.holds_of_wide 10 Tryz.f10 rfl rfl rfl rfl rfl rfl rfl ⟨rfl,rfl,rfl,rfl,rfl⟩ rfl rfl rfl rfl rfl named Tryz.func10 closed
  (of_decide_eq_true (by kernel_rfl)) wrapper
  (λd b H enc _=>lifted d b H enc)
end Go.Proofs.YtnemiodjnhfejaaGreat.fnExactRowWhen
namespace Go.Proofs.YtnemiodjnhfejaaGreat
theorem fnExactRowWhen_holds:Rows.FnExactRowWhenSaid:=fnExactRowWhen.over
end Go.Proofs.YtnemiodjnhfejaaGreat
