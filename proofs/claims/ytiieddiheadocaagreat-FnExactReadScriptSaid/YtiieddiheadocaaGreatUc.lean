/-
  Program's code interpreted over typed values; printed texts; plain laws. No conditions.
-/
import Derived.Test.YtiieddiheadocaaGreatUa
import Derived.Test.YtiieddiheadocaaGreatUb
set_option linter.unusedVariables false
set_option maxRecDepth 100000
namespace Go.PI.G
open Go Go.PI Go.Proofs
open Go.Code (pl pr)
noncomputable def j2R:Code:=(Tryz.f81.body).getD .skip
noncomputable def j7Y:Env Unit:=⟨tys,[],0⟩
noncomputable def j2c (s:qL) (v_:qB) (t7:Int) (t8:Int) (rec:Int->Res) (k0:Unit->Res) (k1:Int->Res):Res:=
 bif decide (t8<t7) then
  bif inb t8 (List.length s) then
   bif sEq v_ (nth eS s t8) then
    k1 t8
   else
    rec (Z8g (t8+1))
  else none
 else
  k0 ()
noncomputable def j3l (s:qL) (v_:qB) (t7:Int):Int->(Int->Res)->((Unit->Res)×(Int->Res))->Res:=λv rec q=>j2c s v_ t7 v (λt8=>rec (t8)) q.1 q.2
noncomputable def j7c (s:qL) (v_:qB) (t7:Int) (n:Nat) (t8:Int) (k0:Unit->Res) (k1:Int->Res):Res:=Z10 (j3l s v_ t7) n (t8) (k0,k1)
noncomputable def j3I:Z1l Unit:=λσ k=>rdN σ 19<|rdV σ 0 y9 false [.S] λs=>rdV σ 1 .str false [] λv_=>rdV σ 7 (.int .i64) false [] λt7=>rdV σ 8 (.int .i64) false [] λt8=>j7c s v_ t7 Z0Y t8 (λ(_:Unit)=>k (.exit 0) (mkS 19 19 [] [])) (λ(t4:Int)=>k .ret (mkS 19 19 [(4,.val ⟨(.int .i64),false,t4,[]⟩)] []))
theorem jfe (s:qL) (v_:qB) (t7:Int) (n:Nat) (v:Int) (k:Z6G Unit):Z3X (Z0R j7Y [] .o (pl (pl (pr (pl (pr j2R)))))) (λσ=>σ.forget [0,1,7,8] []) (Z8a ([],[]) [(0,[],[])] ([4],[])) n (mkS 19 19 [(0,.val ⟨y9,false,s,[.S]⟩),(1,.val ⟨.str,false,v_,[]⟩),(7,.val ⟨(.int .i64),false,t7,[]⟩),(8,.val ⟨(.int .i64),false,v,[]⟩)] []) k=Z10 (j3l s v_ t7) n v ((λ(k:Z6G Unit)=>(((λ(_:Unit)=>k (.exit 0) (mkS 19 19 [] [])),(λ(t4:Int)=>k .ret (mkS 19 19 [(4,.val ⟨(.int .i64),false,t4,[]⟩)] []))):(Unit->Res)×(Int->Res))) k):=Z80 (λv:Int=>(mkS 19 19 [(0,.val ⟨y9,false,s,[.S]⟩),(1,.val ⟨.str,false,v_,[]⟩),(7,.val ⟨(.int .i64),false,t7,[]⟩),(8,.val ⟨(.int .i64),false,v,[]⟩)] [])) (j3l s v_ t7) (λ(k:Z6G Unit)=>(((λ(_:Unit)=>k (.exit 0) (mkS 19 19 [] [])),(λ(t4:Int)=>k .ret (mkS 19 19 [(4,.val ⟨(.int .i64),false,t4,[]⟩)] []))):(Unit->Res)×(Int->Res))) (λv rec k=>by kernel_rfl) n v k
theorem jfg {W0:Base} {M:Nat->Prop} (hnp:W0.np<=0):Z1W Tryz.prog W0 M (pl (pr (pl (pr j2R)))) j3I:=show Z1W Tryz.prog W0 M (Code.loop (pl (pl (pr (pl (pr j2R)))))) j3I from Z8X (Z6Q follows j00 (Z7K Z8W) hnp [] (pl (pl (pr (pl (pr j2R))))) .o trivial) (ks:=[0,1,7,8]) (bs:=[]) (fX:=(Z8a ([],[]) [(0,[],[])] ([4],[]))) (Z8U _ _ _) Z0Y (by
 intro σ k r h
 obtain ⟨hn,h1⟩:=Z8G h
 obtain ⟨s,hs0,h2⟩:=Z8J h1
 obtain ⟨v_,hs1,h3⟩:=Z8J h2
 obtain ⟨t7,hs7,h4⟩:=Z8J h3
 obtain ⟨t8,hs8,h5⟩:=Z8J h4
 refine ⟨_,?_,(jfe s v_ t7 Z0Y (t8) k).trans h5⟩
 exact Z9e hn ⟨hs0,hs1,hs7,hs8,trivial⟩ trivial)
noncomputable def j0P (s:qL) (v_:qB) (k0:Int->Res):Res:=
 j7c s v_ (nI (List.length s)) Z0Y 0
  (λ(_:Unit)=>
   k0 (-1))
  (λ(t:Int)=>
   k0 t)
noncomputable def j2Y:Sig Unit:=⟨[.look y9 false,.look .str false],[false],λvals ext k=>av vals y9 λs vals=>av vals .str λv_ vals=>nl vals<|nl ext<|j0P s v_ (λ(r0:Int)=>k [⟨(.int .i64),false,r0,[]⟩] [] [])⟩
theorem jge (s:qL) (a_s:Bool) (t_s:List Tag) (v_:qB) (a_v_:Bool) (t_v_:List Tag) (k:qK):Z6X j7Y [j3I] (.t .o (.t (.t .o (.t (.x 0) .o)) .o)) false Tryz.f81 [.look y9 false,.look .str false] [false] [⟨y9,a_s,s,t_s⟩,⟨.str,a_v_,v_,t_v_⟩] [] k=j0P s v_ (λ(r0:Int)=>k [⟨(.int .i64),false,r0,[]⟩] [] []):=by kernel_rfl
theorem j0C:Z1k Tryz.prog 81 j2Y:=Z8N (Γ:=j7Y) (X:=[j3I]) (ht:=(.t .o (.t (.t .o (.t (.x 0) .o)) .o))) (fz:=false) (c:=j2R) follows j00 Z8W (Z1A.mk trivial ((Z1A.mk ((Z1A.mk trivial ((Z1A.mk (Z1A.x_mk (λW0 M hnp=>jfg (W0:=W0) (M:=M) hnp)) trivial)))) trivial))) Tryz.func81 (by kernel_rfl) (by kernel_rfl) (by decide) (by
 intro vals ext k r h
 obtain ⟨s,a_s,t_s,vals,rfl,h1⟩:=Z8T h
 obtain ⟨v_,a_v_,t_v_,vals,rfl,h2⟩:=Z8T h1
 obtain ⟨rfl,h3⟩:=Z90 h2
 obtain ⟨rfl,h4⟩:=Z90 h3
 exact (jge s a_s t_s v_ a_v_ t_v_ k).trans h4)
noncomputable def j43:Code:=(Tryz.f202.body).getD .skip
noncomputable def ja9:Env Unit:=⟨tys,[],0⟩
noncomputable def j2Z (s1:List qC) (s2:List qC) (t12:Int) (t13:Int) (rec:Int->Res) (k0:Unit->Res) (k1:Unit->Res):Res:=
 bif decide (t13<t12) then
  bif inb t13 (List.length s1) then
   bif inb t13 (List.length s2) then
    bif !((sEq (nth (eS,0,false,false,0,0,eS) s1 t13).1 (nth (eS,0,false,false,0,0,eS) s2 t13).1)&&(((nth (eS,0,false,false,0,0,eS) s1 t13).2.1==(nth (eS,0,false,false,0,0,eS) s2 t13).2.1)&&(((nth (eS,0,false,false,0,0,eS) s1 t13).2.2.1==(nth (eS,0,false,false,0,0,eS) s2 t13).2.2.1)&&(((nth (eS,0,false,false,0,0,eS) s1 t13).2.2.2.1==(nth (eS,0,false,false,0,0,eS) s2 t13).2.2.2.1)&&(((nth (eS,0,false,false,0,0,eS) s1 t13).2.2.2.2.1==(nth (eS,0,false,false,0,0,eS) s2 t13).2.2.2.2.1)&&(((nth (eS,0,false,false,0,0,eS) s1 t13).2.2.2.2.2.1==(nth (eS,0,false,false,0,0,eS) s2 t13).2.2.2.2.2.1)&&(sEq (nth (eS,0,false,false,0,0,eS) s1 t13).2.2.2.2.2.2 (nth (eS,0,false,false,0,0,eS) s2 t13).2.2.2.2.2.2))))))) then
     k1 ()
    else
     rec (Z8g (t13+1))
   else none
  else none
 else
  k0 ()
noncomputable def j4r (s1:List qC) (s2:List qC) (t12:Int):Int->(Int->Res)->((Unit->Res)×(Unit->Res))->Res:=λv rec q=>j2Z s1 s2 t12 v (λt13=>rec (t13)) q.1 q.2
noncomputable def j5V (s1:List qC) (s2:List qC) (t12:Int) (n:Nat) (t13:Int) (k0:Unit->Res) (k1:Unit->Res):Res:=Z10 (j4r s1 s2 t12) n (t13) (k0,k1)
noncomputable def j5i:Z1l Unit:=λσ k=>rdN σ 26<|rdV σ 0 y8 false [.S] λs1=>rdV σ 1 y8 false [.S] λs2=>rdV σ 12 (.int .i64) false [] λt12=>rdV σ 13 (.int .i64) false [] λt13=>j5V s1 s2 t12 Z0Y t13 (λ(_:Unit)=>k (.exit 0) (mkS 26 26 [] [])) (λ(_:Unit)=>k .ret (mkS 26 26 [(4,.val ⟨.bool,false,false,[]⟩)] []))
theorem jh1 (s1:List qC) (s2:List qC) (t12:Int) (n:Nat) (v:Int) (k:Z6G Unit):Z3X (Z0R ja9 [] .o (pl (pl (pr (pl (pr (pr j43))))))) (λσ=>σ.forget [0,1,12,13] []) (Z8a ([],[]) [(0,[],[])] ([4],[])) n (mkS 26 26 [(0,.val ⟨y8,false,s1,[.S]⟩),(1,.val ⟨y8,false,s2,[.S]⟩),(12,.val ⟨(.int .i64),false,t12,[]⟩),(13,.val ⟨(.int .i64),false,v,[]⟩)] []) k=Z10 (j4r s1 s2 t12) n v ((λ(k:Z6G Unit)=>(((λ(_:Unit)=>k (.exit 0) (mkS 26 26 [] [])),(λ(_:Unit)=>k .ret (mkS 26 26 [(4,.val ⟨.bool,false,false,[]⟩)] []))):(Unit->Res)×(Unit->Res))) k):=Z80 (λv:Int=>(mkS 26 26 [(0,.val ⟨y8,false,s1,[.S]⟩),(1,.val ⟨y8,false,s2,[.S]⟩),(12,.val ⟨(.int .i64),false,t12,[]⟩),(13,.val ⟨(.int .i64),false,v,[]⟩)] [])) (j4r s1 s2 t12) (λ(k:Z6G Unit)=>(((λ(_:Unit)=>k (.exit 0) (mkS 26 26 [] [])),(λ(_:Unit)=>k .ret (mkS 26 26 [(4,.val ⟨.bool,false,false,[]⟩)] []))):(Unit->Res)×(Unit->Res))) (λv rec k=>by kernel_rfl) n v k
theorem jhc {W0:Base} {M:Nat->Prop} (hnp:W0.np<=0):Z1W Tryz.prog W0 M (pl (pr (pl (pr (pr j43))))) j5i:=show Z1W Tryz.prog W0 M (Code.loop (pl (pl (pr (pl (pr (pr j43))))))) j5i from Z8X (Z6Q follows j00 (Z7K Z8W) hnp [] (pl (pl (pr (pl (pr (pr j43)))))) .o trivial) (ks:=[0,1,12,13]) (bs:=[]) (fX:=(Z8a ([],[]) [(0,[],[])] ([4],[]))) (Z8U _ _ _) Z0Y (by
 intro σ k r h
 obtain ⟨hn,h1⟩:=Z8G h
 obtain ⟨s1,hs0,h2⟩:=Z8J h1
 obtain ⟨s2,hs1,h3⟩:=Z8J h2
 obtain ⟨t12,hs12,h4⟩:=Z8J h3
 obtain ⟨t13,hs13,h5⟩:=Z8J h4
 refine ⟨_,?_,(jh1 s1 s2 t12 Z0Y (t13) k).trans h5⟩
 exact Z9e hn ⟨hs0,hs1,hs12,hs13,trivial⟩ trivial)
noncomputable def j2D (s1:List qC) (s2:List qC) (k0:Bool->Res):Res:=
 bif ((nI (List.length s1)) != (nI (List.length s2))) then
  k0 false
 else
  j5V s1 s2 (nI (List.length s1)) Z0Y 0
   (λ(_:Unit)=>
    k0 true)
   (λ(_:Unit)=>
    k0 false)
noncomputable def jdY:Sig Unit:=⟨[.look y8 false,.look y8 false],[false],λvals ext k=>av vals y8 λs1 vals=>av vals y8 λs2 vals=>nl vals<|nl ext<|j2D s1 s2 (λ(r0:Bool)=>k [⟨.bool,false,r0,[]⟩] [] [])⟩
theorem jid (s1:List qC) (a_s1:Bool) (t_s1:List Tag) (s2:List qC) (a_s2:Bool) (t_s2:List Tag) (k:qK):Z6X ja9 [j5i] (.t .o (.t .o (.t (.t .o (.t (.x 0) .o)) .o))) false Tryz.f202 [.look y8 false,.look y8 false] [false] [⟨y8,a_s1,s1,t_s1⟩,⟨y8,a_s2,s2,t_s2⟩] [] k=j2D s1 s2 (λ(r0:Bool)=>k [⟨.bool,false,r0,[]⟩] [] []):=by kernel_rfl
theorem jig:Z1k Tryz.prog 202 jdY:=Z8N (Γ:=ja9) (X:=[j5i]) (ht:=(.t .o (.t .o (.t (.t .o (.t (.x 0) .o)) .o)))) (fz:=false) (c:=j43) follows j00 Z8W (Z1A.mk trivial ((Z1A.mk trivial ((Z1A.mk ((Z1A.mk trivial ((Z1A.mk (Z1A.x_mk (λW0 M hnp=>jhc (W0:=W0) (M:=M) hnp)) trivial)))) trivial))))) Tryz.func202 (by kernel_rfl) (by kernel_rfl) (by decide) (by
 intro vals ext k r h
 obtain ⟨s1,a_s1,t_s1,vals,rfl,h1⟩:=Z8T h
 obtain ⟨s2,a_s2,t_s2,vals,rfl,h2⟩:=Z8T h1
 obtain ⟨rfl,h3⟩:=Z90 h2
 obtain ⟨rfl,h4⟩:=Z90 h3
 exact (jid s1 a_s1 t_s1 s2 a_s2 t_s2 k).trans h4)
noncomputable def j2Q:Code:=(Tryz.f122.body).getD .skip
noncomputable def j7X:Env Unit:=⟨tys,[],0⟩
noncomputable def jf7 (s1:qL) (s2:qL) (t12:Int) (t13:Int) (rec:Int->Res) (k0:Unit->Res) (k1:Unit->Res):Res:=
 bif decide (t13<t12) then
  bif inb t13 (List.length s1) then
   bif inb t13 (List.length s2) then
    bif sNe (nth eS s1 t13) (nth eS s2 t13) then
     k1 ()
    else
     rec (Z8g (t13+1))
   else none
  else none
 else
  k0 ()
noncomputable def j5J (s1:qL) (s2:qL) (t12:Int):Int->(Int->Res)->((Unit->Res)×(Unit->Res))->Res:=λv rec q=>jf7 s1 s2 t12 v (λt13=>rec (t13)) q.1 q.2
noncomputable def j7b (s1:qL) (s2:qL) (t12:Int) (n:Nat) (t13:Int) (k0:Unit->Res) (k1:Unit->Res):Res:=Z10 (j5J s1 s2 t12) n (t13) (k0,k1)
noncomputable def j3H:Z1l Unit:=λσ k=>rdN σ 26<|rdV σ 0 y9 false [.S] λs1=>rdV σ 1 y9 false [.S] λs2=>rdV σ 12 (.int .i64) false [] λt12=>rdV σ 13 (.int .i64) false [] λt13=>j7b s1 s2 t12 Z0Y t13 (λ(_:Unit)=>k (.exit 0) (mkS 26 26 [] [])) (λ(_:Unit)=>k .ret (mkS 26 26 [(4,.val ⟨.bool,false,false,[]⟩)] []))
theorem jfd (s1:qL) (s2:qL) (t12:Int) (n:Nat) (v:Int) (k:Z6G Unit):Z3X (Z0R j7X [] .o (pl (pl (pr (pl (pr (pr j2Q))))))) (λσ=>σ.forget [0,1,12,13] []) (Z8a ([],[]) [(0,[],[])] ([4],[])) n (mkS 26 26 [(0,.val ⟨y9,false,s1,[.S]⟩),(1,.val ⟨y9,false,s2,[.S]⟩),(12,.val ⟨(.int .i64),false,t12,[]⟩),(13,.val ⟨(.int .i64),false,v,[]⟩)] []) k=Z10 (j5J s1 s2 t12) n v ((λ(k:Z6G Unit)=>(((λ(_:Unit)=>k (.exit 0) (mkS 26 26 [] [])),(λ(_:Unit)=>k .ret (mkS 26 26 [(4,.val ⟨.bool,false,false,[]⟩)] []))):(Unit->Res)×(Unit->Res))) k):=Z80 (λv:Int=>(mkS 26 26 [(0,.val ⟨y9,false,s1,[.S]⟩),(1,.val ⟨y9,false,s2,[.S]⟩),(12,.val ⟨(.int .i64),false,t12,[]⟩),(13,.val ⟨(.int .i64),false,v,[]⟩)] [])) (j5J s1 s2 t12) (λ(k:Z6G Unit)=>(((λ(_:Unit)=>k (.exit 0) (mkS 26 26 [] [])),(λ(_:Unit)=>k .ret (mkS 26 26 [(4,.val ⟨.bool,false,false,[]⟩)] []))):(Unit->Res)×(Unit->Res))) (λv rec k=>by kernel_rfl) n v k
theorem jff {W0:Base} {M:Nat->Prop} (hnp:W0.np<=0):Z1W Tryz.prog W0 M (pl (pr (pl (pr (pr j2Q))))) j3H:=show Z1W Tryz.prog W0 M (Code.loop (pl (pl (pr (pl (pr (pr j2Q))))))) j3H from Z8X (Z6Q follows j00 (Z7K Z8W) hnp [] (pl (pl (pr (pl (pr (pr j2Q)))))) .o trivial) (ks:=[0,1,12,13]) (bs:=[]) (fX:=(Z8a ([],[]) [(0,[],[])] ([4],[]))) (Z8U _ _ _) Z0Y (by
 intro σ k r h
 obtain ⟨hn,h1⟩:=Z8G h
 obtain ⟨s1,hs0,h2⟩:=Z8J h1
 obtain ⟨s2,hs1,h3⟩:=Z8J h2
 obtain ⟨t12,hs12,h4⟩:=Z8J h3
 obtain ⟨t13,hs13,h5⟩:=Z8J h4
 refine ⟨_,?_,(jfd s1 s2 t12 Z0Y (t13) k).trans h5⟩
 exact Z9e hn ⟨hs0,hs1,hs12,hs13,trivial⟩ trivial)
noncomputable def j3L (s1:qL) (s2:qL) (k0:Bool->Res):Res:=
 bif ((nI (List.length s1)) != (nI (List.length s2))) then
  k0 false
 else
  j7b s1 s2 (nI (List.length s1)) Z0Y 0
   (λ(_:Unit)=>
    k0 true)
   (λ(_:Unit)=>
    k0 false)
noncomputable def jc4:Sig Unit:=⟨[.look y9 false,.look y9 false],[false],λvals ext k=>av vals y9 λs1 vals=>av vals y9 λs2 vals=>nl vals<|nl ext<|j3L s1 s2 (λ(r0:Bool)=>k [⟨.bool,false,r0,[]⟩] [] [])⟩
theorem jgd (s1:qL) (a_s1:Bool) (t_s1:List Tag) (s2:qL) (a_s2:Bool) (t_s2:List Tag) (k:qK):Z6X j7X [j3H] (.t .o (.t .o (.t (.t .o (.t (.x 0) .o)) .o))) false Tryz.f122 [.look y9 false,.look y9 false] [false] [⟨y9,a_s1,s1,t_s1⟩,⟨y9,a_s2,s2,t_s2⟩] [] k=j3L s1 s2 (λ(r0:Bool)=>k [⟨.bool,false,r0,[]⟩] [] []):=by kernel_rfl
theorem jgi:Z1k Tryz.prog 122 jc4:=Z8N (Γ:=j7X) (X:=[j3H]) (ht:=(.t .o (.t .o (.t (.t .o (.t (.x 0) .o)) .o)))) (fz:=false) (c:=j2Q) follows j00 Z8W (Z1A.mk trivial ((Z1A.mk trivial ((Z1A.mk ((Z1A.mk trivial ((Z1A.mk (Z1A.x_mk (λW0 M hnp=>jff (W0:=W0) (M:=M) hnp)) trivial)))) trivial))))) Tryz.func122 (by kernel_rfl) (by kernel_rfl) (by decide) (by
 intro vals ext k r h
 obtain ⟨s1,a_s1,t_s1,vals,rfl,h1⟩:=Z8T h
 obtain ⟨s2,a_s2,t_s2,vals,rfl,h2⟩:=Z8T h1
 obtain ⟨rfl,h3⟩:=Z90 h2
 obtain ⟨rfl,h4⟩:=Z90 h3
 exact (jgd s1 a_s1 t_s1 s2 a_s2 t_s2 k).trans h4)
end Go.PI.G
namespace Go.PI.G
open Go Go.PI Go.Proofs
open Go.Code (pl pr)
noncomputable def jqH:Code:=(Tryz.f159.body).getD .skip
noncomputable def jiK:Env Unit:=⟨tys,[(68,j95),(157,jcL)],0⟩
noncomputable def jaP (c:qB×Int×Bool×Bool×Int×Int×qB) (k0:Bool->Res):Res:=
 j2f c.1 λ(r:Bool)=>
  bif !r then
   k0 false
  else
   bif decide (c.2.1<1) then
    k0 false
   else
    bif decide (c.2.1>3) then
     k0 false
    else
     bif !c.2.2.2.1 then
      k0 ((c.2.2.2.2.1==0)&&((c.2.2.2.2.2.1==0)&&(sEq c.2.2.2.2.2.2 eS)))
     else
      j8w c.2.2.2.2 λ(r1:Bool)=>
       bif r1 then
        bif ((c.2.2.2.2.1==0)&&((c.2.2.2.2.2.1==0)&&(sEq c.2.2.2.2.2.2 eS))) then
         bif ((c.2.2.2.2.1==0)&&((c.2.2.2.2.2.1==0)&&(sEq c.2.2.2.2.2.2 eS))) then
          k0 (!c.2.2.1)
         else
          k0 true
        else
         bif (c.2.2.2.2.1==c.2.1) then
          bif ((c.2.2.2.2.1==0)&&((c.2.2.2.2.2.1==0)&&(sEq c.2.2.2.2.2.2 eS))) then
           k0 (!c.2.2.1)
          else
           k0 true
         else
          k0 false
       else
        k0 false
noncomputable def jf4:Sig Unit:=⟨[.look y7 true],[false],λvals ext k=>av vals y7 λc vals=>nl vals<|nl ext<|jaP c (λ(r0:Bool)=>k [⟨.bool,false,r0,[]⟩] [] [])⟩
theorem jqn (c:qB×Int×Bool×Bool×Int×Int×qB) (a_c:Bool) (t_c:List Tag) (k:qK):Z6X jiK [] .o false Tryz.f159 [.look y7 true] [false] [⟨y7,a_c,c,t_c⟩] [] k=jaP c (λ(r0:Bool)=>k [⟨.bool,false,r0,[]⟩] [] []):=by kernel_rfl
theorem j7J:Z1k Tryz.prog 159 jf4:=Z8N (Γ:=jiK) (X:=[]) (ht:= .o) (fz:=false) (c:=jqH) follows j00 (Z8C j2A (Z8C j7M Z8W)) trivial Tryz.func159 (by kernel_rfl) (by kernel_rfl) (by decide) (by
 intro vals ext k r h
 obtain ⟨c,a_c,t_c,vals,rfl,h1⟩:=Z8T h
 obtain ⟨rfl,h2⟩:=Z90 h1
 obtain ⟨rfl,h3⟩:=Z90 h2
 exact (jqn c a_c t_c k).trans h3)
noncomputable def ja3:Code:=(Tryz.f209.body).getD .skip
noncomputable def jeM:Env Unit:=⟨tys,[],0⟩
noncomputable def j6Q (name:qB) (t8:List qC) (t9:Int) (t10:Int) (rec:Int->Res) (k0:Unit->Res) (k1:Int->Res):Res:=
 bif decide (t10<t9) then
  bif inb t10 (List.length t8) then
   bif sEq (nth (eS,0,false,false,0,0,eS) t8 t10).1 name then
    k1 t10
   else
    rec (Z8g (t10+1))
  else none
 else
  k0 ()
noncomputable def j9K (name:qB) (t8:List qC) (t9:Int):Int->(Int->Res)->((Unit->Res)×(Int->Res))->Res:=λv rec q=>j6Q name t8 t9 v (λt10=>rec (t10)) q.1 q.2
noncomputable def jek (name:qB) (t8:List qC) (t9:Int) (n:Nat) (t10:Int) (k0:Unit->Res) (k1:Int->Res):Res:=Z10 (j9K name t8 t9) n (t10) (k0,k1)
noncomputable def jaW:Z1l Unit:=λσ k=>rdN σ 21<|rdV σ 1 .str false [] λname=>rdV σ 8 y8 false [.S] λt8=>rdV σ 9 (.int .i64) false [] λt9=>rdV σ 10 (.int .i64) false [] λt10=>jek name t8 t9 Z0Y t10 (λ(_:Unit)=>k (.exit 0) (mkS 21 21 [] [])) (λ(t4:Int)=>k .ret (mkS 21 21 [(4,.val ⟨(.int .i64),false,t4,[]⟩)] []))
theorem joK (name:qB) (t8:List qC) (t9:Int) (n:Nat) (v:Int) (k:Z6G Unit):Z3X (Z0R jeM [] .o (pl (pl (pr (pl (pr ja3)))))) (λσ=>σ.forget [1,8,9,10] []) (Z8a ([],[]) [(0,[],[])] ([4],[])) n (mkS 21 21 [(1,.val ⟨.str,false,name,[]⟩),(8,.val ⟨y8,false,t8,[.S]⟩),(9,.val ⟨(.int .i64),false,t9,[]⟩),(10,.val ⟨(.int .i64),false,v,[]⟩)] []) k=Z10 (j9K name t8 t9) n v ((λ(k:Z6G Unit)=>(((λ(_:Unit)=>k (.exit 0) (mkS 21 21 [] [])),(λ(t4:Int)=>k .ret (mkS 21 21 [(4,.val ⟨(.int .i64),false,t4,[]⟩)] []))):(Unit->Res)×(Int->Res))) k):=Z80 (λv:Int=>(mkS 21 21 [(1,.val ⟨.str,false,name,[]⟩),(8,.val ⟨y8,false,t8,[.S]⟩),(9,.val ⟨(.int .i64),false,t9,[]⟩),(10,.val ⟨(.int .i64),false,v,[]⟩)] [])) (j9K name t8 t9) (λ(k:Z6G Unit)=>(((λ(_:Unit)=>k (.exit 0) (mkS 21 21 [] [])),(λ(t4:Int)=>k .ret (mkS 21 21 [(4,.val ⟨(.int .i64),false,t4,[]⟩)] []))):(Unit->Res)×(Int->Res))) (λv rec k=>by kernel_rfl) n v k
theorem joW {W0:Base} {M:Nat->Prop} (hnp:W0.np<=0):Z1W Tryz.prog W0 M (pl (pr (pl (pr ja3)))) jaW:=show Z1W Tryz.prog W0 M (Code.loop (pl (pl (pr (pl (pr ja3)))))) jaW from Z8X (Z6Q follows j00 (Z7K Z8W) hnp [] (pl (pl (pr (pl (pr ja3))))) .o trivial) (ks:=[1,8,9,10]) (bs:=[]) (fX:=(Z8a ([],[]) [(0,[],[])] ([4],[]))) (Z8U _ _ _) Z0Y (by
 intro σ k r h
 obtain ⟨hn,h1⟩:=Z8G h
 obtain ⟨name,hs1,h2⟩:=Z8J h1
 obtain ⟨t8,hs8,h3⟩:=Z8J h2
 obtain ⟨t9,hs9,h4⟩:=Z8J h3
 obtain ⟨t10,hs10,h5⟩:=Z8J h4
 refine ⟨_,?_,(joK name t8 t9 Z0Y (t10) k).trans h5⟩
 exact Z9e hn ⟨hs1,hs8,hs9,hs10,trivial⟩ trivial)
noncomputable def jaO (t:qB×qE×qL) (name:qB) (k0:Int->Res):Res:=
 jek name t.2.1 (nI (List.length t.2.1)) Z0Y 0
  (λ(_:Unit)=>
   k0 (-1))
  (λ(t1:Int)=>
   k0 t1)
noncomputable def jjk:Sig Unit:=⟨[.look y28 true,.look .str false],[false],λvals ext k=>av vals y28 λt vals=>av vals .str λname vals=>nl vals<|nl ext<|jaO t name (λ(r0:Int)=>k [⟨(.int .i64),false,r0,[]⟩] [] [])⟩
theorem jqm (t:qB×qE×qL) (a_t:Bool) (t_t:List Tag) (name:qB) (a_name:Bool) (t_name:List Tag) (k:qK):Z6X jeM [jaW] (.t .o (.t (.t .o (.t (.x 0) .o)) .o)) false Tryz.f209 [.look y28 true,.look .str false] [false] [⟨y28,a_t,t,t_t⟩,⟨.str,a_name,name,t_name⟩] [] k=jaO t name (λ(r0:Int)=>k [⟨(.int .i64),false,r0,[]⟩] [] []):=by kernel_rfl
theorem jcb:Z1k Tryz.prog 209 jjk:=Z8N (Γ:=jeM) (X:=[jaW]) (ht:=(.t .o (.t (.t .o (.t (.x 0) .o)) .o))) (fz:=false) (c:=ja3) follows j00 Z8W (Z1A.mk trivial ((Z1A.mk ((Z1A.mk trivial ((Z1A.mk (Z1A.x_mk (λW0 M hnp=>joW (W0:=W0) (M:=M) hnp)) trivial)))) trivial))) Tryz.func209 (by kernel_rfl) (by kernel_rfl) (by decide) (by
 intro vals ext k r h
 obtain ⟨t,a_t,t_t,vals,rfl,h1⟩:=Z8T h
 obtain ⟨name,a_name,t_name,vals,rfl,h2⟩:=Z8T h1
 obtain ⟨rfl,h3⟩:=Z90 h2
 obtain ⟨rfl,h4⟩:=Z90 h3
 exact (jqm t a_t t_t name a_name t_name k).trans h4)
noncomputable def j1d:Code:=(Tryz.f158.body).getD .skip
noncomputable def j7Z:Env Unit:=⟨tys,[(68,j95),(159,jf4),(209,jjk)],0⟩
noncomputable def j6T (t:qB×qE×qL) (k0:Bool->Res):Res:=
 j2f t.1 λ(r:Bool)=>
  bif !r then
   k0 true
  else
   bif decide ((nI (List.length t.2.1))<1) then
    k0 true
   else
    bif decide ((nI (List.length t.2.1))>8) then
     k0 true
    else
     k0 (decide ((nI (List.length t.2.2))<1))
noncomputable def j2J:Z1l Unit:=λσ k=>rdN σ 75<|rdT σ 1 (.ptr ⟨true,1,[]⟩)<|rdB σ 1 y28 [.S,.S] λa t=>j6T t (λ(t30:Bool)=>k .normal (mkS 75 75 [(1,.ptr ⟨true,1,[]⟩),(30,.val ⟨.bool,false,t30,[]⟩)] [(1,⟨y28,a,t,[.S,.S]⟩)]))
theorem jlq (a:Bool) (t:qB×qE×qL) (k:Z6G Unit):Z0R j7Z [] .o (pl (pl (pr j1d))) (mkS 75 75 [(1,.ptr ⟨true,1,[]⟩)] [(1,⟨y28,a,t,[.S,.S]⟩)]) (λe σ=>k e ((Z8a ([1,30],[1]) [] ([],[])) e σ))=j6T t (λ(t30:Bool)=>k .normal (mkS 75 75 [(1,.ptr ⟨true,1,[]⟩),(30,.val ⟨.bool,false,t30,[]⟩)] [(1,⟨y28,a,t,[.S,.S]⟩)])):=by kernel_rfl
theorem jmd {W0:Base} {M:Nat->Prop} (hnp:W0.np<=0):Z1W Tryz.prog W0 M (pl (pl (pr j1d))) j2J:=Z91 (Z6Q follows j00 (Z7K (Z8C j2A (Z8C j7J (Z8C jcb Z8W)))) hnp [] ((pl (pl (pr j1d)))) .o trivial) (fg:=(Z8a ([1,30],[1]) [] ([],[]))) (Z8U _ _ _) (by
 intro σ k r h
 obtain ⟨hn,h1⟩:=Z8G h
 obtain ⟨hs1,h2⟩:=Z8H h1
 obtain ⟨a,t,hb1,h3⟩:=Z8D h2
 refine ⟨_,?_,(jlq a t k).trans h3⟩
 exact Z9e hn ⟨hs1,trivial⟩ ⟨hb1,trivial⟩)
noncomputable def j4V (t32:List qC) (t33:Int) (t:qB×qE×qL) (t34:Int) (rec:Int->Res) (k0:Unit->Res) (k1:Unit->Res):Res:=
 bif decide (t34<t33) then
  bif inb t34 (List.length t32) then
   jaP (nth (eS,0,false,false,0,0,eS) t32 t34) λ(r:Bool)=>
    bif !r then
     k1 ()
    else
     jaO t (nth (eS,0,false,false,0,0,eS) t32 t34).1 λ(r1:Int)=>
      bif (r1 != t34) then
       k1 ()
      else
       rec (Z8g (t34+1))
  else none
 else
  k0 ()
noncomputable def j7m (t32:List qC) (t33:Int) (t:qB×qE×qL):Int->(Int->Res)->((Unit->Res)×(Unit->Res))->Res:=λv rec q=>j4V t32 t33 t v (λt34=>rec (t34)) q.1 q.2
noncomputable def j9L (t32:List qC) (t33:Int) (t:qB×qE×qL) (n:Nat) (t34:Int) (k0:Unit->Res) (k1:Unit->Res):Res:=Z10 (j7m t32 t33 t) n (t34) (k0,k1)
noncomputable def j3V:Z1l Unit:=λσ k=>rdN σ 75<|rdT σ 1 (.ptr ⟨true,1,[]⟩)<|rdV σ 32 y8 false [.S] λt32=>rdV σ 33 (.int .i64) false [] λt33=>rdV σ 34 (.int .i64) false [] λt34=>rdB σ 1 y28 [.S,.S] λa t=>j9L t32 t33 t Z0Y t34 (λ(_:Unit)=>k (.exit 0) (mkS 75 75 [(1,.ptr ⟨true,1,[]⟩)] [(1,⟨y28,a,t,[.S,.S]⟩)])) (λ(_:Unit)=>k .ret (mkS 75 75 [(2,.val ⟨.bool,false,false,[]⟩)] []))
theorem jlo (t32:List qC) (t33:Int) (a:Bool) (t:qB×qE×qL) (n:Nat) (v:Int) (k:Z6G Unit):Z3X (Z0R j7Z [j2J] .o (pl (pl (pr (pl (pr (pr j1d))))))) (λσ=>σ.forget [1,32,33,34] [1]) (Z8a ([],[]) [(0,[1],[1])] ([2],[])) n (mkS 75 75 [(1,.ptr ⟨true,1,[]⟩),(32,.val ⟨y8,false,t32,[.S]⟩),(33,.val ⟨(.int .i64),false,t33,[]⟩),(34,.val ⟨(.int .i64),false,v,[]⟩)] [(1,⟨y28,a,t,[.S,.S]⟩)]) k=Z10 (j7m t32 t33 t) n v ((λ(k:Z6G Unit)=>(((λ(_:Unit)=>k (.exit 0) (mkS 75 75 [(1,.ptr ⟨true,1,[]⟩)] [(1,⟨y28,a,t,[.S,.S]⟩)])),(λ(_:Unit)=>k .ret (mkS 75 75 [(2,.val ⟨.bool,false,false,[]⟩)] []))):(Unit->Res)×(Unit->Res))) k):=Z80 (λv:Int=>(mkS 75 75 [(1,.ptr ⟨true,1,[]⟩),(32,.val ⟨y8,false,t32,[.S]⟩),(33,.val ⟨(.int .i64),false,t33,[]⟩),(34,.val ⟨(.int .i64),false,v,[]⟩)] [(1,⟨y28,a,t,[.S,.S]⟩)])) (j7m t32 t33 t) (λ(k:Z6G Unit)=>(((λ(_:Unit)=>k (.exit 0) (mkS 75 75 [(1,.ptr ⟨true,1,[]⟩)] [(1,⟨y28,a,t,[.S,.S]⟩)])),(λ(_:Unit)=>k .ret (mkS 75 75 [(2,.val ⟨.bool,false,false,[]⟩)] []))):(Unit->Res)×(Unit->Res))) (λv rec k=>by kernel_rfl) n v k
theorem jmb {W0:Base} {M:Nat->Prop} (hnp:W0.np<=0):Z1W Tryz.prog W0 M (pl (pr (pl (pr (pr j1d))))) j3V:=show Z1W Tryz.prog W0 M (Code.loop (pl (pl (pr (pl (pr (pr j1d))))))) j3V from Z8X (Z6Q follows j00 (Z7K (Z8C j2A (Z8C j7J (Z8C jcb Z8W)))) hnp [j2J] (pl (pl (pr (pl (pr (pr j1d)))))) .o trivial) (ks:=[1,32,33,34]) (bs:=[1]) (fX:=(Z8a ([],[]) [(0,[1],[1])] ([2],[]))) (Z8U _ _ _) Z0Y (by
 intro σ k r h
 obtain ⟨hn,h1⟩:=Z8G h
 obtain ⟨hs1,h2⟩:=Z8H h1
 obtain ⟨t32,hs32,h3⟩:=Z8J h2
 obtain ⟨t33,hs33,h4⟩:=Z8J h3
 obtain ⟨t34,hs34,h5⟩:=Z8J h4
 obtain ⟨a,t,hb1,h6⟩:=Z8D h5
 refine ⟨_,?_,(jlo t32 t33 a t Z0Y (t34) k).trans h6⟩
 exact Z9e hn ⟨hs1,hs32,hs33,hs34,trivial⟩ ⟨hb1,trivial⟩)
noncomputable def j4W (t52:qL) (t53:Int) (t:qB×qE×qL) (last:Int) (t54:Int) (rec:Int->Int->Res) (k0:Unit->Res) (k1:Unit->Res):Res:=
 bif decide (t54<t53) then
  bif inb t54 (List.length t52) then
   jaO t (nth eS t52 t54) λ(r:Int)=>
    bif decide (r<=last) then
     k1 ()
    else
     bif inb r (List.length t.2.1) then
      bif !(nth (eS,0,false,false,0,0,eS) t.2.1 r).2.2.1 then
       k1 ()
      else
       rec r (Z8g (t54+1))
     else none
  else none
 else
  k0 ()
noncomputable def j7n (t52:qL) (t53:Int) (t:qB×qE×qL):(Int×Int)->(Int×Int->Res)->((Unit->Res)×(Unit->Res))->Res:=λv rec q=>j4W t52 t53 t v.1 v.2 (λlast t54=>rec (last,t54)) q.1 q.2
noncomputable def j9M (t52:qL) (t53:Int) (t:qB×qE×qL) (n:Nat) (last:Int) (t54:Int) (k0:Unit->Res) (k1:Unit->Res):Res:=Z10 (j7n t52 t53 t) n (last,t54) (k0,k1)
noncomputable def j8G:Z1l Unit:=λσ k=>rdN σ 75<|rdT σ 1 (.ptr ⟨true,1,[]⟩)<|rdV σ 5 (.int .i64) false [] λlast=>rdV σ 52 y9 false [.S] λt52=>rdV σ 53 (.int .i64) false [] λt53=>rdV σ 54 (.int .i64) false [] λt54=>rdB σ 1 y28 [.S,.S] λa t=>j9M t52 t53 t Z0Y last t54 (λ(_:Unit)=>k (.exit 2) (mkS 75 75 [] [])) (λ(_:Unit)=>k .ret (mkS 75 75 [(2,.val ⟨.bool,false,false,[]⟩)] []))
theorem jlp (t52:qL) (t53:Int) (a:Bool) (t:qB×qE×qL) (n:Nat) (v:Int×Int) (k:Z6G Unit):Z3X (Z0R j7Z [j2J,j3V] .o (pl (pl (pr (pl (pr (pr (pr (pr j1d))))))))) (λσ=>σ.forget [1,5,52,53,54] [1]) (Z8a ([],[]) [(2,[],[])] ([2],[])) n (mkS 75 75 [(1,.ptr ⟨true,1,[]⟩),(5,.val ⟨(.int .i64),false,v.1,[]⟩),(52,.val ⟨y9,false,t52,[.S]⟩),(53,.val ⟨(.int .i64),false,t53,[]⟩),(54,.val ⟨(.int .i64),false,v.2,[]⟩)] [(1,⟨y28,a,t,[.S,.S]⟩)]) k=Z10 (j7n t52 t53 t) n v ((λ(k:Z6G Unit)=>(((λ(_:Unit)=>k (.exit 2) (mkS 75 75 [] [])),(λ(_:Unit)=>k .ret (mkS 75 75 [(2,.val ⟨.bool,false,false,[]⟩)] []))):(Unit->Res)×(Unit->Res))) k):=Z80 (λv:Int×Int=>(mkS 75 75 [(1,.ptr ⟨true,1,[]⟩),(5,.val ⟨(.int .i64),false,v.1,[]⟩),(52,.val ⟨y9,false,t52,[.S]⟩),(53,.val ⟨(.int .i64),false,t53,[]⟩),(54,.val ⟨(.int .i64),false,v.2,[]⟩)] [(1,⟨y28,a,t,[.S,.S]⟩)])) (j7n t52 t53 t) (λ(k:Z6G Unit)=>(((λ(_:Unit)=>k (.exit 2) (mkS 75 75 [] [])),(λ(_:Unit)=>k .ret (mkS 75 75 [(2,.val ⟨.bool,false,false,[]⟩)] []))):(Unit->Res)×(Unit->Res))) (λv rec k=>by kernel_rfl) n v k
theorem jmc {W0:Base} {M:Nat->Prop} (hnp:W0.np<=0):Z1W Tryz.prog W0 M (pl (pr (pl (pr (pr (pr (pr j1d))))))) j8G:=show Z1W Tryz.prog W0 M (Code.loop (pl (pl (pr (pl (pr (pr (pr (pr j1d))))))))) j8G from Z8X (Z6Q follows j00 (Z7K (Z8C j2A (Z8C j7J (Z8C jcb Z8W)))) hnp [j2J,j3V] (pl (pl (pr (pl (pr (pr (pr (pr j1d)))))))) .o trivial) (ks:=[1,5,52,53,54]) (bs:=[1]) (fX:=(Z8a ([],[]) [(2,[],[])] ([2],[]))) (Z8U _ _ _) Z0Y (by
 intro σ k r h
 obtain ⟨hn,h1⟩:=Z8G h
 obtain ⟨hs1,h2⟩:=Z8H h1
 obtain ⟨last,hs5,h3⟩:=Z8J h2
 obtain ⟨t52,hs52,h4⟩:=Z8J h3
 obtain ⟨t53,hs53,h5⟩:=Z8J h4
 obtain ⟨t54,hs54,h6⟩:=Z8J h5
 obtain ⟨a,t,hb1,h7⟩:=Z8D h6
 refine ⟨_,?_,(jlp t52 t53 a t Z0Y (last,t54) k).trans h7⟩
 exact Z9e hn ⟨hs1,hs5,hs52,hs53,hs54,trivial⟩ ⟨hb1,trivial⟩)
noncomputable def jal (t:qB×qE×qL) (k0:Bool->Res):Res:=
 j6T t λ(t1:Bool)=>
  bif t1 then
   k0 false
  else
   j9L t.2.1 (nI (List.length t.2.1)) t Z0Y 0
    (λ(_:Unit)=>
     j9M t.2.2 (nI (List.length t.2.2)) t Z0Y (-1) 0
      (λ(_:Unit)=>
       k0 true)
      (λ(_:Unit)=>
       k0 false))
    (λ(_:Unit)=>
     k0 false)
noncomputable def jgH:Sig Unit:=⟨[.look y28 true],[false],λvals ext k=>av vals y28 λt vals=>nl vals<|nl ext<|jal t (λ(r0:Bool)=>k [⟨.bool,false,r0,[]⟩] [] [])⟩
theorem joj (t:qB×qE×qL) (a_t:Bool) (t_t:List Tag) (k:qK):Z6X j7Z [j2J,j3V,j8G] (.t .o (.t (.t (.x 0) .o) (.t (.t .o (.t (.x 1) .o)) (.t .o (.t (.t .o (.t (.x 2) .o)) .o))))) false Tryz.f158 [.look y28 true] [false] [⟨y28,a_t,t,t_t⟩] [] k=jal t (λ(r0:Bool)=>k [⟨.bool,false,r0,[]⟩] [] []):=by kernel_rfl
theorem jgj:Z1k Tryz.prog 158 jgH:=Z8N (Γ:=j7Z) (X:=[j2J,j3V,j8G]) (ht:=(.t .o (.t (.t (.x 0) .o) (.t (.t .o (.t (.x 1) .o)) (.t .o (.t (.t .o (.t (.x 2) .o)) .o)))))) (fz:=false) (c:=j1d) follows j00 (Z8C j2A (Z8C j7J (Z8C jcb Z8W))) (Z1A.mk trivial ((Z1A.mk ((Z1A.mk (Z1A.x_mk (λW0 M hnp=>jmd (W0:=W0) (M:=M) hnp)) trivial)) ((Z1A.mk ((Z1A.mk trivial ((Z1A.mk (Z1A.x_mk (λW0 M hnp=>jmb (W0:=W0) (M:=M) hnp)) trivial)))) ((Z1A.mk trivial ((Z1A.mk ((Z1A.mk trivial ((Z1A.mk (Z1A.x_mk (λW0 M hnp=>jmc (W0:=W0) (M:=M) hnp)) trivial)))) trivial))))))))) Tryz.func158 (by kernel_rfl) (by kernel_rfl) (by decide) (by
 intro vals ext k r h
 obtain ⟨t,a_t,t_t,vals,rfl,h1⟩:=Z8T h
 obtain ⟨rfl,h2⟩:=Z90 h1
 obtain ⟨rfl,h3⟩:=Z90 h2
 exact (joj t a_t t_t k).trans h3)
noncomputable def jcf:Code:=(Tryz.f71.body).getD .skip
noncomputable def jeN:Env Unit:=⟨tys,[(68,j95),(158,jgH),(159,jf4)],0⟩
noncomputable def j96 (d:qG) (k0:Bool->Res):Res:=
 bif ((nI (List.length d.2.2.1))==0) then
  k0 ((nI (List.length d.2.2.2.1))==0)
 else
  k0 false
noncomputable def jdH:Z1l Unit:=λσ k=>rdN σ 123<|rdT σ 1 (.ptr ⟨true,1,[]⟩)<|rdB σ 1 y14 [.S,.S] λa d=>j96 d (λ(plain:Bool)=>k .normal (mkS 123 123 [(1,.ptr ⟨true,1,[]⟩),(3,.val ⟨.bool,false,plain,[]⟩)] [(1,⟨y14,a,d,[.S,.S]⟩)]))
theorem joL (a:Bool) (d:qG) (k:Z6G Unit):Z0R jeN [] .o (pl (pr (pr jcf))) (mkS 123 123 [(1,.ptr ⟨true,1,[]⟩)] [(1,⟨y14,a,d,[.S,.S]⟩)]) (λe σ=>k e ((Z8a ([1,3],[1]) [] ([],[])) e σ))=j96 d (λ(plain:Bool)=>k .normal (mkS 123 123 [(1,.ptr ⟨true,1,[]⟩),(3,.val ⟨.bool,false,plain,[]⟩)] [(1,⟨y14,a,d,[.S,.S]⟩)])):=by kernel_rfl
theorem joX {W0:Base} {M:Nat->Prop} (hnp:W0.np<=0):Z1W Tryz.prog W0 M (pl (pr (pr jcf))) jdH:=Z91 (Z6Q follows j00 (Z7K (Z8C j2A (Z8C jgj (Z8C j7J Z8W)))) hnp [] ((pl (pr (pr jcf)))) .o trivial) (fg:=(Z8a ([1,3],[1]) [] ([],[]))) (Z8U _ _ _) (by
 intro σ k r h
 obtain ⟨hn,h1⟩:=Z8G h
 obtain ⟨hs1,h2⟩:=Z8H h1
 obtain ⟨a,d,hb1,h3⟩:=Z8D h2
 refine ⟨_,?_,(joL a d k).trans h3⟩
 exact Z9e hn ⟨hs1,trivial⟩ ⟨hb1,trivial⟩)
noncomputable def jaQ (d:qG) (k0:Bool->Res):Res:=
 j2f d.2.1 λ(r:Bool)=>
  bif !r then
   k0 false
  else
   j96 d λ(plain:Bool)=>
    bif (d.1==1) then
     bif sEq d.2.2.2.2.1 eS then
      bif sEq d.2.2.2.2.2 eS then
       jal (d.2.1,d.2.2.1,d.2.2.2.1) λ(r1:Bool)=>
        k0 r1
      else
       k0 false
     else
      k0 false
    else
     bif (d.1==2) then
      bif plain then
       bif sEq d.2.2.2.2.1 eS then
        k0 (sEq d.2.2.2.2.2 eS)
       else
        k0 false
      else
       k0 false
     else
      bif (d.1==3) then
       bif ((nI (List.length d.2.2.1))==1) then
        bif inb 0 (List.length d.2.2.1) then
         jaP (nth (eS,0,false,false,0,0,eS) d.2.2.1 0) λ(r2:Bool)=>
          bif r2 then
           bif inb 0 (List.length d.2.2.1) then
            bif (nth (eS,0,false,false,0,0,eS) d.2.2.1 0).2.2.2.1 then
             bif ((nI (List.length d.2.2.2.1))==0) then
              bif sEq d.2.2.2.2.1 eS then
               k0 (sEq d.2.2.2.2.2 eS)
              else
               k0 false
             else
              k0 false
            else
             bif inb 0 (List.length d.2.2.1) then
              bif !(nth (eS,0,false,false,0,0,eS) d.2.2.1 0).2.2.1 then
               bif ((nI (List.length d.2.2.2.1))==0) then
                bif sEq d.2.2.2.2.1 eS then
                 k0 (sEq d.2.2.2.2.2 eS)
                else
                 k0 false
               else
                k0 false
              else
               k0 false
             else none
           else none
          else
           k0 false
        else none
       else
        k0 false
      else
       bif (d.1==4) then
        bif plain then
         j2f d.2.2.2.2.1 λ(r3:Bool)=>
          bif r3 then
           k0 (sEq d.2.2.2.2.2 eS)
          else
           k0 false
        else
         k0 false
       else
        bif (d.1==5) then
         bif plain then
          j2f d.2.2.2.2.1 λ(r4:Bool)=>
           bif r4 then
            j2f d.2.2.2.2.2 λ(r5:Bool)=>
             k0 r5
           else
            k0 false
         else
          k0 false
        else
         k0 false
noncomputable def jf5:Sig Unit:=⟨[.look y14 true],[false],λvals ext k=>av vals y14 λd vals=>nl vals<|nl ext<|jaQ d (λ(r0:Bool)=>k [⟨.bool,false,r0,[]⟩] [] [])⟩
theorem jqo (d:qG) (a_d:Bool) (t_d:List Tag) (k:qK):Z6X jeN [jdH] (.t .o (.t .o (.t (.x 0) .o))) false Tryz.f71 [.look y14 true] [false] [⟨y14,a_d,d,t_d⟩] [] k=jaQ d (λ(r0:Bool)=>k [⟨.bool,false,r0,[]⟩] [] []):=by kernel_rfl
theorem jeD:Z1k Tryz.prog 71 jf5:=Z8N (Γ:=jeN) (X:=[jdH]) (ht:=(.t .o (.t .o (.t (.x 0) .o)))) (fz:=false) (c:=jcf) follows j00 (Z8C j2A (Z8C jgj (Z8C j7J Z8W))) (Z1A.mk trivial ((Z1A.mk trivial ((Z1A.mk (Z1A.x_mk (λW0 M hnp=>joX (W0:=W0) (M:=M) hnp)) trivial))))) Tryz.func71 (by kernel_rfl) (by kernel_rfl) (by decide) (by
 intro vals ext k r h
 obtain ⟨d,a_d,t_d,vals,rfl,h1⟩:=Z8T h
 obtain ⟨rfl,h2⟩:=Z90 h1
 obtain ⟨rfl,h3⟩:=Z90 h2
 exact (jqo d a_d t_d k).trans h3)
noncomputable def jkY:Code:=(Tryz.f210.body).getD .skip
noncomputable def jeK:Env Unit:=⟨tys,[],0⟩
noncomputable def j5o (l:qL) (k0:qL->Res):Res:=
 bif lim (0+(List.length l)) then
  k0 l
 else none
noncomputable def jbN:Sig Unit:=⟨[.borrow y9 false],[false],λvals ext k=>av vals y9 λl vals=>nl vals<|nl ext<|j5o l (λ(r0:qL)=>k [⟨y9,false,r0,[.O]⟩] [] [])⟩
theorem jkM (l:qL) (a_l:Bool) (t_l:List Tag) (k:qK):Z6X jeK [] .o false Tryz.f210 [.borrow y9 false] [false] [⟨y9,a_l,l,t_l⟩] [] k=j5o l (λ(r0:qL)=>k [⟨y9,false,r0,[.O]⟩] [] []):=by kernel_rfl
theorem jbA:Z1k Tryz.prog 210 jbN:=Z8N (Γ:=jeK) (X:=[]) (ht:= .o) (fz:=false) (c:=jkY) follows j00 Z8W trivial Tryz.func210 (by kernel_rfl) (by kernel_rfl) (by decide) (by
 intro vals ext k r h
 obtain ⟨l,a_l,t_l,vals,rfl,h1⟩:=Z8T h
 obtain ⟨rfl,h2⟩:=Z90 h1
 obtain ⟨rfl,h3⟩:=Z90 h2
 exact (jkM l a_l t_l k).trans h3)
noncomputable def jkX:Code:=(Tryz.f247.body).getD .skip
noncomputable def jeJ:Env Unit:=⟨tys,[(210,jbN)],0⟩
noncomputable def jaF (t:qB×qE×qL) (k0:qT->Res):Res:=
 bif lim (0+(List.length t.2.1)) then
  j5o t.2.2 λ(r:qL)=>
   k0 (t.1,t.2.1,r)
 else none
noncomputable def jeZ:Sig Unit:=⟨[.borrow y28 true],[true],λvals ext k=>av vals y28 λt vals=>nl vals<|nl ext<|jaF t (λ(r0:qB×qE×qL)=>k [⟨y28,true,r0,[.O,.O]⟩] [] [])⟩
theorem jkL (t:qB×qE×qL) (a_t:Bool) (t_t:List Tag) (k:qK):Z6X jeJ [] .o false Tryz.f247 [.borrow y28 true] [true] [⟨y28,a_t,t,t_t⟩] [] k=jaF t (λ(r0:qB×qE×qL)=>k [⟨y28,true,r0,[.O,.O]⟩] [] []):=by kernel_rfl
theorem jkT:Z1k Tryz.prog 247 jeZ:=Z8N (Γ:=jeJ) (X:=[]) (ht:= .o) (fz:=false) (c:=jkX) follows j00 (Z8C jbA Z8W) trivial Tryz.func247 (by kernel_rfl) (by kernel_rfl) (by decide) (by
 intro vals ext k r h
 obtain ⟨t,a_t,t_t,vals,rfl,h1⟩:=Z8T h
 obtain ⟨rfl,h2⟩:=Z90 h1
 obtain ⟨rfl,h3⟩:=Z90 h2
 exact (jkL t a_t t_t k).trans h3)
noncomputable def jna:Code:=(Tryz.f200.body).getD .skip
noncomputable def jfq:Env Unit:=⟨tys,[(247,jeZ)],0⟩
noncomputable def j8V (d:qG) (k0:qT->Res):Res:=
 jaF (d.2.1,d.2.2.1,d.2.2.2.1) λ(r:qB×qE×qL)=>
  k0 r
noncomputable def jfH:Sig Unit:=⟨[.borrow y14 true],[true],λvals ext k=>av vals y14 λd vals=>nl vals<|nl ext<|j8V d (λ(r0:qB×qE×qL)=>k [⟨y28,true,r0,[.O,.O]⟩] [] [])⟩
theorem jmF (d:qG) (a_d:Bool) (t_d:List Tag) (k:qK):Z6X jfq [] .o false Tryz.f200 [.borrow y14 true] [true] [⟨y14,a_d,d,t_d⟩] [] k=j8V d (λ(r0:qB×qE×qL)=>k [⟨y28,true,r0,[.O,.O]⟩] [] []):=by kernel_rfl
theorem jn6:Z1k Tryz.prog 200 jfH:=Z8N (Γ:=jfq) (X:=[]) (ht:= .o) (fz:=false) (c:=jna) follows j00 (Z8C jkT Z8W) trivial Tryz.func200 (by kernel_rfl) (by kernel_rfl) (by decide) (by
 intro vals ext k r h
 obtain ⟨d,a_d,t_d,vals,rfl,h1⟩:=Z8T h
 obtain ⟨rfl,h2⟩:=Z90 h1
 obtain ⟨rfl,h3⟩:=Z90 h2
 exact (jmF d a_d t_d k).trans h3)
noncomputable def jqx:Code:=(Tryz.f201.body).getD .skip
noncomputable def jiA:Env Unit:=⟨tys,[(152,j94),(174,j1H),(205,jcI)],0⟩
noncomputable def j8i (c:qB×Int×Bool×Bool×Int×Int×qB) (k0:Bool->Res):Res:=
 j2y c.1 λ(r:Bool)=>
  bif !r then
   k0 false
  else
   j0O c.2.1 1 3 λ(r1:Bool)=>
    bif !r1 then
     k0 false
    else
     j8m c.2.2.2.2 λ(r2:Bool)=>
      bif !r2 then
       k0 false
      else
       bif !c.2.2.2.1 then
        k0 ((c.2.2.2.2.1==0)&&((c.2.2.2.2.2.1==0)&&(sEq c.2.2.2.2.2.2 eS)))
       else
        bif (c.2.2.2.2.1==c.2.1) then
         k0 true
        else
         bif (c.2.2.2.2.1==0) then
          k0 (!c.2.2.1)
         else
          k0 false
noncomputable def jcG:Sig Unit:=⟨[.look y7 true],[false],λvals ext k=>av vals y7 λc vals=>nl vals<|nl ext<|j8i c (λ(r0:Bool)=>k [⟨.bool,false,r0,[]⟩] [] [])⟩
theorem jqa (c:qB×Int×Bool×Bool×Int×Int×qB) (a_c:Bool) (t_c:List Tag) (k:qK):Z6X jiA [] .o false Tryz.f201 [.look y7 true] [false] [⟨y7,a_c,c,t_c⟩] [] k=j8i c (λ(r0:Bool)=>k [⟨.bool,false,r0,[]⟩] [] []):=by kernel_rfl
theorem j7G:Z1k Tryz.prog 201 jcG:=Z8N (Γ:=jiA) (X:=[]) (ht:= .o) (fz:=false) (c:=jqx) follows j00 (Z8C j4w (Z8C j0s (Z8C ja0 Z8W))) trivial Tryz.func201 (by kernel_rfl) (by kernel_rfl) (by decide) (by
 intro vals ext k r h
 obtain ⟨c,a_c,t_c,vals,rfl,h1⟩:=Z8T h
 obtain ⟨rfl,h2⟩:=Z90 h1
 obtain ⟨rfl,h3⟩:=Z90 h2
 exact (jqa c a_c t_c k).trans h3)
noncomputable def jpQ:Code:=(Tryz.f285.body).getD .skip
noncomputable def jhC:Env Unit:=⟨tys,[],0⟩
noncomputable def jdL (c:qB×Int×Bool×Bool×Int×Int×qB) (t1:qB) (k0:Bool->Res):Res:=
 k0 (sEq c.1 t1)
noncomputable def jhO:Sig Unit:=⟨[.look y7 true,.rptr .str],[false],λvals ext k=>av vals y7 λc vals=>av vals .str λt1 vals=>nl vals<|nl ext<|jdL c t1 (λ(r0:Bool)=>k [⟨.bool,false,r0,[]⟩] [] [])⟩
theorem jps (c:qB×Int×Bool×Bool×Int×Int×qB) (a_c:Bool) (t_c:List Tag) (t1:qB) (a_t1:Bool) (t_t1:List Tag) (k:qK):Z6X jhC [] .o false Tryz.f285 [.look y7 true,.rptr .str] [false] [⟨y7,a_c,c,t_c⟩,⟨.str,a_t1,t1,t_t1⟩] [] k=jdL c t1 (λ(r0:Bool)=>k [⟨.bool,false,r0,[]⟩] [] []):=by kernel_rfl
theorem jhu:Z1k Tryz.prog 285 jhO:=Z8N (Γ:=jhC) (X:=[]) (ht:= .o) (fz:=false) (c:=jpQ) follows j00 Z8W trivial Tryz.func285 (by kernel_rfl) (by kernel_rfl) (by decide) (by
 intro vals ext k r h
 obtain ⟨c,a_c,t_c,vals,rfl,h1⟩:=Z8T h
 obtain ⟨t1,a_t1,t_t1,vals,rfl,h2⟩:=Z8T h1
 obtain ⟨rfl,h3⟩:=Z90 h2
 obtain ⟨rfl,h4⟩:=Z90 h3
 exact (jps c a_c t_c t1 a_t1 t_t1 k).trans h4)
noncomputable def j2w:Code:=(Tryz.f284.body).getD .skip
noncomputable def j76:Env Unit:=⟨tys,[(285,jhO)],0⟩
noncomputable def j1X (s:List qC) (f:qB) (t7:Int) (t8:Int) (rec:Int->Res) (k0:Unit->Res) (k1:Int->Res):Res:=
 bif decide (t8<t7) then
  bif inb t8 (List.length s) then
   jdL (nth (eS,0,false,false,0,0,eS) s t8) f λ(r:Bool)=>
    bif r then
     k1 t8
    else
     rec (Z8g (t8+1))
  else none
 else
  k0 ()
noncomputable def j37 (s:List qC) (f:qB) (t7:Int):Int->(Int->Res)->((Unit->Res)×(Int->Res))->Res:=λv rec q=>j1X s f t7 v (λt8=>rec (t8)) q.1 q.2
noncomputable def j63 (s:List qC) (f:qB) (t7:Int) (n:Nat) (t8:Int) (k0:Unit->Res) (k1:Int->Res):Res:=Z10 (j37 s f t7) n (t8) (k0,k1)
noncomputable def j3w:Z1l Unit:=λσ k=>rdN σ 19<|rdV σ 0 y8 false [.S] λs=>rdC σ 1 285 [.str] .str [] λf=>rdV σ 7 (.int .i64) false [] λt7=>rdV σ 8 (.int .i64) false [] λt8=>j63 s f t7 Z0Y t8 (λ(_:Unit)=>k (.exit 0) (mkS 19 19 [] [])) (λ(t4:Int)=>k .ret (mkS 19 19 [(4,.val ⟨(.int .i64),false,t4,[]⟩)] []))
theorem jeH (s:List qC) (f:qB) (t7:Int) (n:Nat) (v:Int) (k:Z6G Unit):Z3X (Z0R j76 [] .o (pl (pl (pr (pl (pr j2w)))))) (λσ=>σ.forget [0,1,7,8] []) (Z8a ([],[]) [(0,[],[])] ([4],[])) n (mkS 19 19 [(0,.val ⟨y8,false,s,[.S]⟩),(1,.sclos 285 [.str] ⟨.str,false,f,[]⟩),(7,.val ⟨(.int .i64),false,t7,[]⟩),(8,.val ⟨(.int .i64),false,v,[]⟩)] []) k=Z10 (j37 s f t7) n v ((λ(k:Z6G Unit)=>(((λ(_:Unit)=>k (.exit 0) (mkS 19 19 [] [])),(λ(t4:Int)=>k .ret (mkS 19 19 [(4,.val ⟨(.int .i64),false,t4,[]⟩)] []))):(Unit->Res)×(Int->Res))) k):=Z80 (λv:Int=>(mkS 19 19 [(0,.val ⟨y8,false,s,[.S]⟩),(1,.sclos 285 [.str] ⟨.str,false,f,[]⟩),(7,.val ⟨(.int .i64),false,t7,[]⟩),(8,.val ⟨(.int .i64),false,v,[]⟩)] [])) (j37 s f t7) (λ(k:Z6G Unit)=>(((λ(_:Unit)=>k (.exit 0) (mkS 19 19 [] [])),(λ(t4:Int)=>k .ret (mkS 19 19 [(4,.val ⟨(.int .i64),false,t4,[]⟩)] []))):(Unit->Res)×(Int->Res))) (λv rec k=>by kernel_rfl) n v k
theorem jeS {W0:Base} {M:Nat->Prop} (hnp:W0.np<=0):Z1W Tryz.prog W0 M (pl (pr (pl (pr j2w)))) j3w:=show Z1W Tryz.prog W0 M (Code.loop (pl (pl (pr (pl (pr j2w)))))) j3w from Z8X (Z6Q follows j00 (Z7K (Z8C jhu Z8W)) hnp [] (pl (pl (pr (pl (pr j2w))))) .o trivial) (ks:=[0,1,7,8]) (bs:=[]) (fX:=(Z8a ([],[]) [(0,[],[])] ([4],[]))) (Z8U _ _ _) Z0Y (by
 intro σ k r h
 obtain ⟨hn,h1⟩:=Z8G h
 obtain ⟨s,hs0,h2⟩:=Z8J h1
 obtain ⟨f,hs1,h3⟩:=Z8E h2
 obtain ⟨t7,hs7,h4⟩:=Z8J h3
 obtain ⟨t8,hs8,h5⟩:=Z8J h4
 refine ⟨_,?_,(jeH s f t7 Z0Y (t8) k).trans h5⟩
 exact Z9e hn ⟨hs0,hs1,hs7,hs8,trivial⟩ trivial)
noncomputable def j5c (s:List qC) (f:qB) (k0:Int->Res):Res:=
 j63 s f (nI (List.length s)) Z0Y 0
  (λ(_:Unit)=>
   k0 (-1))
  (λ(t:Int)=>
   k0 t)
noncomputable def jbi:Sig Unit:=⟨[.look y8 false,.rclos 285 [.str]],[false],λvals ext k=>av vals y8 λs vals=>av vals .str λf vals=>nl vals<|nl ext<|j5c s f (λ(r0:Int)=>k [⟨(.int .i64),false,r0,[]⟩] [] [])⟩
theorem jg6 (s:List qC) (a_s:Bool) (t_s:List Tag) (f:qB) (a_f:Bool) (t_f:List Tag) (k:qK):Z6X j76 [j3w] (.t .o (.t (.t .o (.t (.x 0) .o)) .o)) false Tryz.f284 [.look y8 false,.rclos 285 [.str]] [false] [⟨y8,a_s,s,t_s⟩,⟨.str,a_f,f,t_f⟩] [] k=j5c s f (λ(r0:Int)=>k [⟨(.int .i64),false,r0,[]⟩] [] []):=by kernel_rfl
theorem jg8:Z1k Tryz.prog 284 jbi:=Z8N (Γ:=j76) (X:=[j3w]) (ht:=(.t .o (.t (.t .o (.t (.x 0) .o)) .o))) (fz:=false) (c:=j2w) follows j00 (Z8C jhu Z8W) (Z1A.mk trivial ((Z1A.mk ((Z1A.mk trivial ((Z1A.mk (Z1A.x_mk (λW0 M hnp=>jeS (W0:=W0) (M:=M) hnp)) trivial)))) trivial))) Tryz.func284 (by kernel_rfl) (by kernel_rfl) (by decide) (by
 intro vals ext k r h
 obtain ⟨s,a_s,t_s,vals,rfl,h1⟩:=Z8T h
 obtain ⟨f,a_f,t_f,vals,rfl,h2⟩:=Z8T h1
 obtain ⟨rfl,h3⟩:=Z90 h2
 obtain ⟨rfl,h4⟩:=Z90 h3
 exact (jg6 s a_s t_s f a_f t_f k).trans h4)
noncomputable def jqw:Code:=(Tryz.f246.body).getD .skip
noncomputable def jiz:Env Unit:=⟨tys,[(284,jbi)],0⟩
noncomputable def jaC (t:qB×qE×qL) (name:qB) (k0:Int->Res):Res:=
 j5c t.2.1 name λ(r:Int)=>
  k0 r
noncomputable def jje:Sig Unit:=⟨[.look y28 true,.look .str false],[false],λvals ext k=>av vals y28 λt vals=>av vals .str λname vals=>nl vals<|nl ext<|jaC t name (λ(r0:Int)=>k [⟨(.int .i64),false,r0,[]⟩] [] [])⟩
theorem jq9 (t:qB×qE×qL) (a_t:Bool) (t_t:List Tag) (name:qB) (a_name:Bool) (t_name:List Tag) (k:qK):Z6X jiz [] .o false Tryz.f246 [.look y28 true,.look .str false] [false] [⟨y28,a_t,t,t_t⟩,⟨.str,a_name,name,t_name⟩] [] k=jaC t name (λ(r0:Int)=>k [⟨(.int .i64),false,r0,[]⟩] [] []):=by kernel_rfl
theorem jeA:Z1k Tryz.prog 246 jje:=Z8N (Γ:=jiz) (X:=[]) (ht:= .o) (fz:=false) (c:=jqw) follows j00 (Z8C jg8 Z8W) trivial Tryz.func246 (by kernel_rfl) (by kernel_rfl) (by decide) (by
 intro vals ext k r h
 obtain ⟨t,a_t,t_t,vals,rfl,h1⟩:=Z8T h
 obtain ⟨name,a_name,t_name,vals,rfl,h2⟩:=Z8T h1
 obtain ⟨rfl,h3⟩:=Z90 h2
 obtain ⟨rfl,h4⟩:=Z90 h3
 exact (jq9 t a_t t_t name a_name t_name k).trans h4)
noncomputable def j2i:Code:=(Tryz.f199.body).getD .skip
noncomputable def jaw:Env Unit:=⟨tys,[(152,j94),(174,j1H),(201,jcG),(246,jje)],0⟩
noncomputable def j4F (t10:List qC) (t11:Int) (t:qB×qE×qL) (t12:Int) (rec:Int->Res) (k0:Unit->Res) (k1:Unit->Res):Res:=
 bif decide (t12<t11) then
  bif inb t12 (List.length t10) then
   j8i (nth (eS,0,false,false,0,0,eS) t10 t12) λ(r:Bool)=>
    bif !r then
     k1 ()
    else
     jaC t (nth (eS,0,false,false,0,0,eS) t10 t12).1 λ(r1:Int)=>
      bif (r1 != t12) then
       k1 ()
      else
       rec (Z8g (t12+1))
  else none
 else
  k0 ()
noncomputable def j7i (t10:List qC) (t11:Int) (t:qB×qE×qL):Int->(Int->Res)->((Unit->Res)×(Unit->Res))->Res:=λv rec q=>j4F t10 t11 t v (λt12=>rec (t12)) q.1 q.2
noncomputable def j9y (t10:List qC) (t11:Int) (t:qB×qE×qL) (n:Nat) (t12:Int) (k0:Unit->Res) (k1:Unit->Res):Res:=Z10 (j7i t10 t11 t) n (t12) (k0,k1)
noncomputable def j3S:Z1l Unit:=λσ k=>rdN σ 68<|rdT σ 1 (.ptr ⟨true,1,[]⟩)<|rdV σ 10 y8 false [.S] λt10=>rdV σ 11 (.int .i64) false [] λt11=>rdV σ 12 (.int .i64) false [] λt12=>rdB σ 1 y28 [.S,.S] λa t=>j9y t10 t11 t Z0Y t12 (λ(_:Unit)=>k (.exit 0) (mkS 68 68 [(1,.ptr ⟨true,1,[]⟩)] [(1,⟨y28,a,t,[.S,.S]⟩)])) (λ(_:Unit)=>k .ret (mkS 68 68 [(2,.val ⟨.bool,false,false,[]⟩)] []))
theorem jl8 (t10:List qC) (t11:Int) (a:Bool) (t:qB×qE×qL) (n:Nat) (v:Int) (k:Z6G Unit):Z3X (Z0R jaw [] .o (pl (pl (pr (pl (pr j2i)))))) (λσ=>σ.forget [1,10,11,12] [1]) (Z8a ([],[]) [(0,[1],[1])] ([2],[])) n (mkS 68 68 [(1,.ptr ⟨true,1,[]⟩),(10,.val ⟨y8,false,t10,[.S]⟩),(11,.val ⟨(.int .i64),false,t11,[]⟩),(12,.val ⟨(.int .i64),false,v,[]⟩)] [(1,⟨y28,a,t,[.S,.S]⟩)]) k=Z10 (j7i t10 t11 t) n v ((λ(k:Z6G Unit)=>(((λ(_:Unit)=>k (.exit 0) (mkS 68 68 [(1,.ptr ⟨true,1,[]⟩)] [(1,⟨y28,a,t,[.S,.S]⟩)])),(λ(_:Unit)=>k .ret (mkS 68 68 [(2,.val ⟨.bool,false,false,[]⟩)] []))):(Unit->Res)×(Unit->Res))) k):=Z80 (λv:Int=>(mkS 68 68 [(1,.ptr ⟨true,1,[]⟩),(10,.val ⟨y8,false,t10,[.S]⟩),(11,.val ⟨(.int .i64),false,t11,[]⟩),(12,.val ⟨(.int .i64),false,v,[]⟩)] [(1,⟨y28,a,t,[.S,.S]⟩)])) (j7i t10 t11 t) (λ(k:Z6G Unit)=>(((λ(_:Unit)=>k (.exit 0) (mkS 68 68 [(1,.ptr ⟨true,1,[]⟩)] [(1,⟨y28,a,t,[.S,.S]⟩)])),(λ(_:Unit)=>k .ret (mkS 68 68 [(2,.val ⟨.bool,false,false,[]⟩)] []))):(Unit->Res)×(Unit->Res))) (λv rec k=>by kernel_rfl) n v k
theorem jlV {W0:Base} {M:Nat->Prop} (hnp:W0.np<=0):Z1W Tryz.prog W0 M (pl (pr (pl (pr j2i)))) j3S:=show Z1W Tryz.prog W0 M (Code.loop (pl (pl (pr (pl (pr j2i)))))) j3S from Z8X (Z6Q follows j00 (Z7K (Z8C j4w (Z8C j0s (Z8C j7G (Z8C jeA Z8W))))) hnp [] (pl (pl (pr (pl (pr j2i))))) .o trivial) (ks:=[1,10,11,12]) (bs:=[1]) (fX:=(Z8a ([],[]) [(0,[1],[1])] ([2],[]))) (Z8U _ _ _) Z0Y (by
 intro σ k r h
 obtain ⟨hn,h1⟩:=Z8G h
 obtain ⟨hs1,h2⟩:=Z8H h1
 obtain ⟨t10,hs10,h3⟩:=Z8J h2
 obtain ⟨t11,hs11,h4⟩:=Z8J h3
 obtain ⟨t12,hs12,h5⟩:=Z8J h4
 obtain ⟨a,t,hb1,h6⟩:=Z8D h5
 refine ⟨_,?_,(jl8 t10 t11 a t Z0Y (t12) k).trans h6⟩
 exact Z9e hn ⟨hs1,hs10,hs11,hs12,trivial⟩ ⟨hb1,trivial⟩)
noncomputable def j4G (t30:qL) (t31:Int) (t:qB×qE×qL) (last:Int) (t32:Int) (rec:Int->Int->Res) (k0:Unit->Res) (k1:Unit->Res):Res:=
 bif decide (t32<t31) then
  bif inb t32 (List.length t30) then
   jaC t (nth eS t30 t32) λ(r:Int)=>
    bif decide (r<=last) then
     k1 ()
    else
     bif inb r (List.length t.2.1) then
      bif !(nth (eS,0,false,false,0,0,eS) t.2.1 r).2.2.1 then
       k1 ()
      else
       rec r (Z8g (t32+1))
     else none
  else none
 else
  k0 ()
noncomputable def j7j (t30:qL) (t31:Int) (t:qB×qE×qL):(Int×Int)->(Int×Int->Res)->((Unit->Res)×(Unit->Res))->Res:=λv rec q=>j4G t30 t31 t v.1 v.2 (λlast t32=>rec (last,t32)) q.1 q.2
noncomputable def j9z (t30:qL) (t31:Int) (t:qB×qE×qL) (n:Nat) (last:Int) (t32:Int) (k0:Unit->Res) (k1:Unit->Res):Res:=Z10 (j7j t30 t31 t) n (last,t32) (k0,k1)
noncomputable def j8D:Z1l Unit:=λσ k=>rdN σ 68<|rdT σ 1 (.ptr ⟨true,1,[]⟩)<|rdV σ 5 (.int .i64) false [] λlast=>rdV σ 30 y9 false [.S] λt30=>rdV σ 31 (.int .i64) false [] λt31=>rdV σ 32 (.int .i64) false [] λt32=>rdB σ 1 y28 [.S,.S] λa t=>j9z t30 t31 t Z0Y last t32 (λ(_:Unit)=>k (.exit 2) (mkS 68 68 [(1,.ptr ⟨true,1,[]⟩)] [(1,⟨y28,a,t,[.S,.S]⟩)])) (λ(_:Unit)=>k .ret (mkS 68 68 [(2,.val ⟨.bool,false,false,[]⟩)] []))
theorem jl9 (t30:qL) (t31:Int) (a:Bool) (t:qB×qE×qL) (n:Nat) (v:Int×Int) (k:Z6G Unit):Z3X (Z0R jaw [j3S] .o (pl (pl (pr (pl (pr (pr (pr j2i)))))))) (λσ=>σ.forget [1,5,30,31,32] [1]) (Z8a ([],[]) [(2,[1],[1])] ([2],[])) n (mkS 68 68 [(1,.ptr ⟨true,1,[]⟩),(5,.val ⟨(.int .i64),false,v.1,[]⟩),(30,.val ⟨y9,false,t30,[.S]⟩),(31,.val ⟨(.int .i64),false,t31,[]⟩),(32,.val ⟨(.int .i64),false,v.2,[]⟩)] [(1,⟨y28,a,t,[.S,.S]⟩)]) k=Z10 (j7j t30 t31 t) n v ((λ(k:Z6G Unit)=>(((λ(_:Unit)=>k (.exit 2) (mkS 68 68 [(1,.ptr ⟨true,1,[]⟩)] [(1,⟨y28,a,t,[.S,.S]⟩)])),(λ(_:Unit)=>k .ret (mkS 68 68 [(2,.val ⟨.bool,false,false,[]⟩)] []))):(Unit->Res)×(Unit->Res))) k):=Z80 (λv:Int×Int=>(mkS 68 68 [(1,.ptr ⟨true,1,[]⟩),(5,.val ⟨(.int .i64),false,v.1,[]⟩),(30,.val ⟨y9,false,t30,[.S]⟩),(31,.val ⟨(.int .i64),false,t31,[]⟩),(32,.val ⟨(.int .i64),false,v.2,[]⟩)] [(1,⟨y28,a,t,[.S,.S]⟩)])) (j7j t30 t31 t) (λ(k:Z6G Unit)=>(((λ(_:Unit)=>k (.exit 2) (mkS 68 68 [(1,.ptr ⟨true,1,[]⟩)] [(1,⟨y28,a,t,[.S,.S]⟩)])),(λ(_:Unit)=>k .ret (mkS 68 68 [(2,.val ⟨.bool,false,false,[]⟩)] []))):(Unit->Res)×(Unit->Res))) (λv rec k=>by kernel_rfl) n v k
theorem jlW {W0:Base} {M:Nat->Prop} (hnp:W0.np<=0):Z1W Tryz.prog W0 M (pl (pr (pl (pr (pr (pr j2i)))))) j8D:=show Z1W Tryz.prog W0 M (Code.loop (pl (pl (pr (pl (pr (pr (pr j2i)))))))) j8D from Z8X (Z6Q follows j00 (Z7K (Z8C j4w (Z8C j0s (Z8C j7G (Z8C jeA Z8W))))) hnp [j3S] (pl (pl (pr (pl (pr (pr (pr j2i))))))) .o trivial) (ks:=[1,5,30,31,32]) (bs:=[1]) (fX:=(Z8a ([],[]) [(2,[1],[1])] ([2],[]))) (Z8U _ _ _) Z0Y (by
 intro σ k r h
 obtain ⟨hn,h1⟩:=Z8G h
 obtain ⟨hs1,h2⟩:=Z8H h1
 obtain ⟨last,hs5,h3⟩:=Z8J h2
 obtain ⟨t30,hs30,h4⟩:=Z8J h3
 obtain ⟨t31,hs31,h5⟩:=Z8J h4
 obtain ⟨t32,hs32,h6⟩:=Z8J h5
 obtain ⟨a,t,hb1,h7⟩:=Z8D h6
 refine ⟨_,?_,(jl9 t30 t31 a t Z0Y (last,t32) k).trans h7⟩
 exact Z9e hn ⟨hs1,hs5,hs30,hs31,hs32,trivial⟩ ⟨hb1,trivial⟩)
noncomputable def jaa (t:qB×qE×qL) (k0:Bool->Res):Res:=
 j9y t.2.1 (nI (List.length t.2.1)) t Z0Y 0
  (λ(_:Unit)=>
   j9z t.2.2 (nI (List.length t.2.2)) t Z0Y (-1) 0
    (λ(_:Unit)=>
     j2y t.1 λ(r:Bool)=>
      bif r then
       j0O (nI (List.length t.2.1)) 1 8 λ(r1:Bool)=>
        bif r1 then
         k0 (decide ((nI (List.length t.2.2))>0))
        else
         k0 false
      else
       k0 false)
    (λ(_:Unit)=>
     k0 false))
  (λ(_:Unit)=>
   k0 false)
noncomputable def jgB:Sig Unit:=⟨[.look y28 true],[false],λvals ext k=>av vals y28 λt vals=>nl vals<|nl ext<|jaa t (λ(r0:Bool)=>k [⟨.bool,false,r0,[]⟩] [] [])⟩
theorem jo7 (t:qB×qE×qL) (a_t:Bool) (t_t:List Tag) (k:qK):Z6X jaw [j3S,j8D] (.t .o (.t (.t .o (.t (.x 0) .o)) (.t .o (.t (.t .o (.t (.x 1) .o)) .o)))) false Tryz.f199 [.look y28 true] [false] [⟨y28,a_t,t,t_t⟩] [] k=jaa t (λ(r0:Bool)=>k [⟨.bool,false,r0,[]⟩] [] []):=by kernel_rfl
theorem jow:Z1k Tryz.prog 199 jgB:=Z8N (Γ:=jaw) (X:=[j3S,j8D]) (ht:=(.t .o (.t (.t .o (.t (.x 0) .o)) (.t .o (.t (.t .o (.t (.x 1) .o)) .o))))) (fz:=false) (c:=j2i) follows j00 (Z8C j4w (Z8C j0s (Z8C j7G (Z8C jeA Z8W)))) (Z1A.mk trivial ((Z1A.mk ((Z1A.mk trivial ((Z1A.mk (Z1A.x_mk (λW0 M hnp=>jlV (W0:=W0) (M:=M) hnp)) trivial)))) ((Z1A.mk trivial ((Z1A.mk ((Z1A.mk trivial ((Z1A.mk (Z1A.x_mk (λW0 M hnp=>jlW (W0:=W0) (M:=M) hnp)) trivial)))) trivial))))))) Tryz.func199 (by kernel_rfl) (by kernel_rfl) (by decide) (by
 intro vals ext k r h
 obtain ⟨t,a_t,t_t,vals,rfl,h1⟩:=Z8T h
 obtain ⟨rfl,h2⟩:=Z90 h1
 obtain ⟨rfl,h3⟩:=Z90 h2
 exact (jo7 t a_t t_t k).trans h3)
noncomputable def jne:Code:=(Tryz.f153.body).getD .skip
noncomputable def jfu:Env Unit:=⟨tys,[(122,jc4),(202,jdY)],0⟩
noncomputable def j15 (a:qG) (b:qG) (k0:Bool->Res):Res:=
 bif (a.1==b.1) then
  bif sEq a.2.1 b.2.1 then
   j2D a.2.2.1 b.2.2.1 λ(r:Bool)=>
    bif r then
     j3L a.2.2.2.1 b.2.2.2.1 λ(r1:Bool)=>
      bif r1 then
       bif sEq a.2.2.2.2.1 b.2.2.2.2.1 then
        k0 (sEq a.2.2.2.2.2 b.2.2.2.2.2)
       else
        k0 false
      else
       k0 false
    else
     k0 false
  else
   k0 false
 else
  k0 false
noncomputable def j9I:Sig Unit:=⟨[.look y14 true,.look y14 true],[false],λvals ext k=>av vals y14 λa vals=>av vals y14 λb vals=>nl vals<|nl ext<|j15 a b (λ(r0:Bool)=>k [⟨.bool,false,r0,[]⟩] [] [])⟩
theorem jmN (a:qG) (a_a:Bool) (t_a:List Tag) (b:qG) (a_b:Bool) (t_b:List Tag) (k:qK):Z6X jfu [] .o false Tryz.f153 [.look y14 true,.look y14 true] [false] [⟨y14,a_a,a,t_a⟩,⟨y14,a_b,b,t_b⟩] [] k=j15 a b (λ(r0:Bool)=>k [⟨.bool,false,r0,[]⟩] [] []):=by kernel_rfl
theorem j9p:Z1k Tryz.prog 153 j9I:=Z8N (Γ:=jfu) (X:=[]) (ht:= .o) (fz:=false) (c:=jne) follows j00 (Z8C jgi (Z8C jig Z8W)) trivial Tryz.func153 (by kernel_rfl) (by kernel_rfl) (by decide) (by
 intro vals ext k r h
 obtain ⟨a,a_a,t_a,vals,rfl,h1⟩:=Z8T h
 obtain ⟨b,a_b,t_b,vals,rfl,h2⟩:=Z8T h1
 obtain ⟨rfl,h3⟩:=Z90 h2
 obtain ⟨rfl,h4⟩:=Z90 h3
 exact (jmN a a_a t_a b a_b t_b k).trans h4)
noncomputable def jqy:Code:=(Tryz.f151.body).getD .skip
noncomputable def jiB:Env Unit:=⟨tys,[(152,j94),(153,j9I),(199,jgB),(200,jfH),(201,jcG)],0⟩
noncomputable def jaD (d:qG) (k0:Bool->Res):Res:=
 j2y d.2.1 λ(r:Bool)=>
  bif !r then
   k0 false
  else
   bif (d.1==1) then
    j8V d λ(r1:qB×qE×qL)=>
     jaa r1 λ(r2:Bool)=>
      bif r2 then
       bif sEq d.2.2.2.2.1 eS then
        k0 (sEq d.2.2.2.2.2 eS)
       else
        k0 false
      else
       k0 false
   else
    bif (d.1==2) then
     j15 d (d.1,d.2.1,[],[],eS,eS) λ(r3:Bool)=>
      k0 r3
    else
     bif (d.1==3) then
      j15 d (d.1,d.2.1,d.2.2.1,[],eS,eS) λ(r4:Bool)=>
       bif r4 then
        bif ((nI (List.length d.2.2.1))==1) then
         bif inb 0 (List.length d.2.2.1) then
          j8i (nth (eS,0,false,false,0,0,eS) d.2.2.1 0) λ(r5:Bool)=>
           bif r5 then
            bif inb 0 (List.length d.2.2.1) then
             bif (nth (eS,0,false,false,0,0,eS) d.2.2.1 0).2.2.2.1 then
              k0 true
             else
              bif inb 0 (List.length d.2.2.1) then
               k0 (!(nth (eS,0,false,false,0,0,eS) d.2.2.1 0).2.2.1)
              else none
            else none
           else
            k0 false
         else none
        else
         k0 false
       else
        k0 false
     else
      bif (d.1==4) then
       j15 d (d.1,d.2.1,[],[],d.2.2.2.2.1,eS) λ(r6:Bool)=>
        bif r6 then
         j2y d.2.2.2.2.1 λ(r7:Bool)=>
          k0 r7
        else
         k0 false
      else
       bif (d.1==5) then
        j15 d (d.1,d.2.1,[],[],d.2.2.2.2.1,d.2.2.2.2.2) λ(r8:Bool)=>
         bif r8 then
          j2y d.2.2.2.2.1 λ(r9:Bool)=>
           bif r9 then
            j2y d.2.2.2.2.2 λ(r10:Bool)=>
             k0 r10
           else
            k0 false
         else
          k0 false
       else
        k0 false
noncomputable def jeX:Sig Unit:=⟨[.look y14 true],[false],λvals ext k=>av vals y14 λd vals=>nl vals<|nl ext<|jaD d (λ(r0:Bool)=>k [⟨.bool,false,r0,[]⟩] [] [])⟩
theorem jqb (d:qG) (a_d:Bool) (t_d:List Tag) (k:qK):Z6X jiB [] .o false Tryz.f151 [.look y14 true] [false] [⟨y14,a_d,d,t_d⟩] [] k=jaD d (λ(r0:Bool)=>k [⟨.bool,false,r0,[]⟩] [] []):=by kernel_rfl
theorem jc7:Z1k Tryz.prog 151 jeX:=Z8N (Γ:=jiB) (X:=[]) (ht:= .o) (fz:=false) (c:=jqy) follows j00 (Z8C j4w (Z8C j9p (Z8C jow (Z8C jn6 (Z8C j7G Z8W))))) trivial Tryz.func151 (by kernel_rfl) (by kernel_rfl) (by decide) (by
 intro vals ext k r h
 obtain ⟨d,a_d,t_d,vals,rfl,h1⟩:=Z8T h
 obtain ⟨rfl,h2⟩:=Z90 h1
 obtain ⟨rfl,h3⟩:=Z90 h2
 exact (jqb d a_d t_d k).trans h3)
end Go.PI.G
