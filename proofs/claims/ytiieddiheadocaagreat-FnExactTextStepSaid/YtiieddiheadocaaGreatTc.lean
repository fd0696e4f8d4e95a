/-
  Program's code interpreted over typed values; printed texts; plain laws. No conditions.
-/
import Derived.Test.YtiieddiheadocaaGreatTa
import Derived.Test.YtiieddiheadocaaGreatTb
set_option linter.unusedVariables false
set_option maxRecDepth 100000
namespace Go.PI.G
open Go Go.PI Go.Proofs
open Go.Code (pl pr)
noncomputable def j2J:Code:=(Tryz.f81.body).getD .skip
noncomputable def j7k:Env Unit:=⟨tys,[],0⟩
noncomputable def j24 (s:qL) (v_:qB) (t7:Int) (t8:Int) (rec:Int->Res) (k0:Unit->Res) (k1:Int->Res):Res:=
 bif decide (t8<t7) then
  bif inb t8 (List.length s) then
   bif sEq v_ (nth eS s t8) then
    k1 t8
   else
    rec (Z8g (t8+1))
  else none
 else
  k0 ()
noncomputable def j3b (s:qL) (v_:qB) (t7:Int):Int->(Int->Res)->((Unit->Res)×(Int->Res))->Res:=λv rec q=>j24 s v_ t7 v (λt8=>rec (t8)) q.1 q.2
noncomputable def j6A (s:qL) (v_:qB) (t7:Int) (n:Nat) (t8:Int) (k0:Unit->Res) (k1:Int->Res):Res:=Z10 (j3b s v_ t7) n (t8) (k0,k1)
noncomputable def j3x:Z1l Unit:=λσ k=>rdN σ 19<|rdV σ 0 y9 false [.S] λs=>rdV σ 1 .str false [] λv_=>rdV σ 7 (.int .i64) false [] λt7=>rdV σ 8 (.int .i64) false [] λt8=>j6A s v_ t7 Z0Y t8 (λ(_:Unit)=>k (.exit 0) (mkS 19 19 [] [])) (λ(t4:Int)=>k .ret (mkS 19 19 [(4,.val ⟨(.int .i64),false,t4,[]⟩)] []))
theorem jem (s:qL) (v_:qB) (t7:Int) (n:Nat) (v:Int) (k:Z6G Unit):Z3X (Z0R j7k [] .o (pl (pl (pr (pl (pr j2J)))))) (λσ=>σ.forget [0,1,7,8] []) (Z8a ([],[]) [(0,[],[])] ([4],[])) n (mkS 19 19 [(0,.val ⟨y9,false,s,[.S]⟩),(1,.val ⟨.str,false,v_,[]⟩),(7,.val ⟨(.int .i64),false,t7,[]⟩),(8,.val ⟨(.int .i64),false,v,[]⟩)] []) k=Z10 (j3b s v_ t7) n v ((λ(k:Z6G Unit)=>(((λ(_:Unit)=>k (.exit 0) (mkS 19 19 [] [])),(λ(t4:Int)=>k .ret (mkS 19 19 [(4,.val ⟨(.int .i64),false,t4,[]⟩)] []))):(Unit->Res)×(Int->Res))) k):=Z80 (λv:Int=>(mkS 19 19 [(0,.val ⟨y9,false,s,[.S]⟩),(1,.val ⟨.str,false,v_,[]⟩),(7,.val ⟨(.int .i64),false,t7,[]⟩),(8,.val ⟨(.int .i64),false,v,[]⟩)] [])) (j3b s v_ t7) (λ(k:Z6G Unit)=>(((λ(_:Unit)=>k (.exit 0) (mkS 19 19 [] [])),(λ(t4:Int)=>k .ret (mkS 19 19 [(4,.val ⟨(.int .i64),false,t4,[]⟩)] []))):(Unit->Res)×(Int->Res))) (λv rec k=>by kernel_rfl) n v k
theorem jeo {W0:Base} {M:Nat->Prop} (hnp:W0.np<=0):Z1W Tryz.prog W0 M (pl (pr (pl (pr j2J)))) j3x:=show Z1W Tryz.prog W0 M (Code.loop (pl (pl (pr (pl (pr j2J)))))) j3x from Z8X (Z6Q follows j01 (Z7K Z8W) hnp [] (pl (pl (pr (pl (pr j2J))))) .o trivial) (ks:=[0,1,7,8]) (bs:=[]) (fX:=(Z8a ([],[]) [(0,[],[])] ([4],[]))) (Z8U _ _ _) Z0Y (by
 intro σ k r h
 obtain ⟨hn,h1⟩:=Z8G h
 obtain ⟨s,hs0,h2⟩:=Z8J h1
 obtain ⟨v_,hs1,h3⟩:=Z8J h2
 obtain ⟨t7,hs7,h4⟩:=Z8J h3
 obtain ⟨t8,hs8,h5⟩:=Z8J h4
 refine ⟨_,?_,(jem s v_ t7 Z0Y (t8) k).trans h5⟩
 exact Z9e hn ⟨hs0,hs1,hs7,hs8,trivial⟩ trivial)
noncomputable def j0L (s:qL) (v_:qB) (k0:Int->Res):Res:=
 j6A s v_ (nI (List.length s)) Z0Y 0
  (λ(_:Unit)=>
   k0 (-1))
  (λ(t:Int)=>
   k0 t)
noncomputable def j2Q:Sig Unit:=⟨[.look y9 false,.look .str false],[false],λvals ext k=>av vals y9 λs vals=>av vals .str λv_ vals=>nl vals<|nl ext<|j0L s v_ (λ(r0:Int)=>k [⟨(.int .i64),false,r0,[]⟩] [] [])⟩
theorem jfu (s:qL) (a_s:Bool) (t_s:List Tag) (v_:qB) (a_v_:Bool) (t_v_:List Tag) (k:qK):Z6X j7k [j3x] (.t .o (.t (.t .o (.t (.x 0) .o)) .o)) false Tryz.f81 [.look y9 false,.look .str false] [false] [⟨y9,a_s,s,t_s⟩,⟨.str,a_v_,v_,t_v_⟩] [] k=j0L s v_ (λ(r0:Int)=>k [⟨(.int .i64),false,r0,[]⟩] [] []):=by kernel_rfl
theorem j0A:Z1k Tryz.prog 81 j2Q:=Z8N (Γ:=j7k) (X:=[j3x]) (ht:=(.t .o (.t (.t .o (.t (.x 0) .o)) .o))) (fz:=false) (c:=j2J) follows j01 Z8W (Z1A.mk trivial ((Z1A.mk ((Z1A.mk trivial ((Z1A.mk (Z1A.x_mk (λW0 M hnp=>jeo (W0:=W0) (M:=M) hnp)) trivial)))) trivial))) Tryz.func81 (by kernel_rfl) (by kernel_rfl) (by decide) (by
 intro vals ext k r h
 obtain ⟨s,a_s,t_s,vals,rfl,h1⟩:=Z8T h
 obtain ⟨v_,a_v_,t_v_,vals,rfl,h2⟩:=Z8T h1
 obtain ⟨rfl,h3⟩:=Z90 h2
 obtain ⟨rfl,h4⟩:=Z90 h3
 exact (jfu s a_s t_s v_ a_v_ t_v_ k).trans h4)
noncomputable def j3U:Code:=(Tryz.f202.body).getD .skip
noncomputable def j9s:Env Unit:=⟨tys,[],0⟩
noncomputable def j2R (s1:List qC) (s2:List qC) (t12:Int) (t13:Int) (rec:Int->Res) (k0:Unit->Res) (k1:Unit->Res):Res:=
 bif decide (t13<t12) then
  bif inb t13 (List.length s1) then
   bif inb t13 (List.length s2) then
    bif !((sEq (nth (eS,0,false,false,0,0,eS) s1 t13).1 (nth (eS,0,false,false,0,0,eS) s2 t13).1)&&(((nth (eS,0,false,false,0,0,eS) s1 t13).2.1==(nth (eS,0,false,false,0,0,eS) s2 t13).2.1)&&(((nth (eS,0,false,false,0,0,eS) s1 t13).2.2.1==(nth (eS,0,false,false,0,0,eS) s2 t13).2.2.1)&&(((nth (eS,0,false,false,0,0,eS) s1 t13).2.2.2.1==(nth (eS,0,false,false,0,0,eS) s2 t13).2.2.2.1)&&(((nth (eS,0,false,false,0,0,eS) s1 t13).2.2.2.2.1==(nth (eS,0,false,false,0,0,eS) s2 t13).2.2.2.2.1)&&(((nth (eS,0,false,false,0,0,eS) s1 t13).2.2.2.2.2.1==(nth (eS,0,false,false,0,0,eS) s2 t13).2.2.2.2.2.1)&&(sEq (nth (eS,0,false,false,0,0,eS) s1 t13).2.2.2.2.2.2 (nth (eS,0,false,false,0,0,eS) s2 t13).2.2.2.2.2.2))))))) then
     k1 ()
    else
     rec (Z8g (t13+1))
   else none
  else none
 else
  k0 ()
noncomputable def j4f (s1:List qC) (s2:List qC) (t12:Int):Int->(Int->Res)->((Unit->Res)×(Unit->Res))->Res:=λv rec q=>j2R s1 s2 t12 v (λt13=>rec (t13)) q.1 q.2
noncomputable def j5q (s1:List qC) (s2:List qC) (t12:Int) (n:Nat) (t13:Int) (k0:Unit->Res) (k1:Unit->Res):Res:=Z10 (j4f s1 s2 t12) n (t13) (k0,k1)
noncomputable def j4Q:Z1l Unit:=λσ k=>rdN σ 26<|rdV σ 0 y8 false [.S] λs1=>rdV σ 1 y8 false [.S] λs2=>rdV σ 12 (.int .i64) false [] λt12=>rdV σ 13 (.int .i64) false [] λt13=>j5q s1 s2 t12 Z0Y t13 (λ(_:Unit)=>k (.exit 0) (mkS 26 26 [] [])) (λ(_:Unit)=>k .ret (mkS 26 26 [(4,.val ⟨.bool,false,false,[]⟩)] []))
theorem jgr (s1:List qC) (s2:List qC) (t12:Int) (n:Nat) (v:Int) (k:Z6G Unit):Z3X (Z0R j9s [] .o (pl (pl (pr (pl (pr (pr j3U))))))) (λσ=>σ.forget [0,1,12,13] []) (Z8a ([],[]) [(0,[],[])] ([4],[])) n (mkS 26 26 [(0,.val ⟨y8,false,s1,[.S]⟩),(1,.val ⟨y8,false,s2,[.S]⟩),(12,.val ⟨(.int .i64),false,t12,[]⟩),(13,.val ⟨(.int .i64),false,v,[]⟩)] []) k=Z10 (j4f s1 s2 t12) n v ((λ(k:Z6G Unit)=>(((λ(_:Unit)=>k (.exit 0) (mkS 26 26 [] [])),(λ(_:Unit)=>k .ret (mkS 26 26 [(4,.val ⟨.bool,false,false,[]⟩)] []))):(Unit->Res)×(Unit->Res))) k):=Z80 (λv:Int=>(mkS 26 26 [(0,.val ⟨y8,false,s1,[.S]⟩),(1,.val ⟨y8,false,s2,[.S]⟩),(12,.val ⟨(.int .i64),false,t12,[]⟩),(13,.val ⟨(.int .i64),false,v,[]⟩)] [])) (j4f s1 s2 t12) (λ(k:Z6G Unit)=>(((λ(_:Unit)=>k (.exit 0) (mkS 26 26 [] [])),(λ(_:Unit)=>k .ret (mkS 26 26 [(4,.val ⟨.bool,false,false,[]⟩)] []))):(Unit->Res)×(Unit->Res))) (λv rec k=>by kernel_rfl) n v k
theorem jgC {W0:Base} {M:Nat->Prop} (hnp:W0.np<=0):Z1W Tryz.prog W0 M (pl (pr (pl (pr (pr j3U))))) j4Q:=show Z1W Tryz.prog W0 M (Code.loop (pl (pl (pr (pl (pr (pr j3U))))))) j4Q from Z8X (Z6Q follows j01 (Z7K Z8W) hnp [] (pl (pl (pr (pl (pr (pr j3U)))))) .o trivial) (ks:=[0,1,12,13]) (bs:=[]) (fX:=(Z8a ([],[]) [(0,[],[])] ([4],[]))) (Z8U _ _ _) Z0Y (by
 intro σ k r h
 obtain ⟨hn,h1⟩:=Z8G h
 obtain ⟨s1,hs0,h2⟩:=Z8J h1
 obtain ⟨s2,hs1,h3⟩:=Z8J h2
 obtain ⟨t12,hs12,h4⟩:=Z8J h3
 obtain ⟨t13,hs13,h5⟩:=Z8J h4
 refine ⟨_,?_,(jgr s1 s2 t12 Z0Y (t13) k).trans h5⟩
 exact Z9e hn ⟨hs0,hs1,hs12,hs13,trivial⟩ trivial)
noncomputable def j2v (s1:List qC) (s2:List qC) (k0:Bool->Res):Res:=
 bif ((nI (List.length s1)) != (nI (List.length s2))) then
  k0 false
 else
  j5q s1 s2 (nI (List.length s1)) Z0Y 0
   (λ(_:Unit)=>
    k0 true)
   (λ(_:Unit)=>
    k0 false)
noncomputable def jdc:Sig Unit:=⟨[.look y8 false,.look y8 false],[false],λvals ext k=>av vals y8 λs1 vals=>av vals y8 λs2 vals=>nl vals<|nl ext<|j2v s1 s2 (λ(r0:Bool)=>k [⟨.bool,false,r0,[]⟩] [] [])⟩
theorem jhv (s1:List qC) (a_s1:Bool) (t_s1:List Tag) (s2:List qC) (a_s2:Bool) (t_s2:List Tag) (k:qK):Z6X j9s [j4Q] (.t .o (.t .o (.t (.t .o (.t (.x 0) .o)) .o))) false Tryz.f202 [.look y8 false,.look y8 false] [false] [⟨y8,a_s1,s1,t_s1⟩,⟨y8,a_s2,s2,t_s2⟩] [] k=j2v s1 s2 (λ(r0:Bool)=>k [⟨.bool,false,r0,[]⟩] [] []):=by kernel_rfl
theorem jhA:Z1k Tryz.prog 202 jdc:=Z8N (Γ:=j9s) (X:=[j4Q]) (ht:=(.t .o (.t .o (.t (.t .o (.t (.x 0) .o)) .o)))) (fz:=false) (c:=j3U) follows j01 Z8W (Z1A.mk trivial ((Z1A.mk trivial ((Z1A.mk ((Z1A.mk trivial ((Z1A.mk (Z1A.x_mk (λW0 M hnp=>jgC (W0:=W0) (M:=M) hnp)) trivial)))) trivial))))) Tryz.func202 (by kernel_rfl) (by kernel_rfl) (by decide) (by
 intro vals ext k r h
 obtain ⟨s1,a_s1,t_s1,vals,rfl,h1⟩:=Z8T h
 obtain ⟨s2,a_s2,t_s2,vals,rfl,h2⟩:=Z8T h1
 obtain ⟨rfl,h3⟩:=Z90 h2
 obtain ⟨rfl,h4⟩:=Z90 h3
 exact (jhv s1 a_s1 t_s1 s2 a_s2 t_s2 k).trans h4)
noncomputable def j2I:Code:=(Tryz.f122.body).getD .skip
noncomputable def j7j:Env Unit:=⟨tys,[],0⟩
noncomputable def jef (s1:qL) (s2:qL) (t12:Int) (t13:Int) (rec:Int->Res) (k0:Unit->Res) (k1:Unit->Res):Res:=
 bif decide (t13<t12) then
  bif inb t13 (List.length s1) then
   bif inb t13 (List.length s2) then
    bif sNe (nth eS s1 t13) (nth eS s2 t13) then
     k1 ()
    else
     rec (Z8g (t13+1))
   else none
  else none
 else
  k0 ()
noncomputable def j5e (s1:qL) (s2:qL) (t12:Int):Int->(Int->Res)->((Unit->Res)×(Unit->Res))->Res:=λv rec q=>jef s1 s2 t12 v (λt13=>rec (t13)) q.1 q.2
noncomputable def j6z (s1:qL) (s2:qL) (t12:Int) (n:Nat) (t13:Int) (k0:Unit->Res) (k1:Unit->Res):Res:=Z10 (j5e s1 s2 t12) n (t13) (k0,k1)
noncomputable def j3w:Z1l Unit:=λσ k=>rdN σ 26<|rdV σ 0 y9 false [.S] λs1=>rdV σ 1 y9 false [.S] λs2=>rdV σ 12 (.int .i64) false [] λt12=>rdV σ 13 (.int .i64) false [] λt13=>j6z s1 s2 t12 Z0Y t13 (λ(_:Unit)=>k (.exit 0) (mkS 26 26 [] [])) (λ(_:Unit)=>k .ret (mkS 26 26 [(4,.val ⟨.bool,false,false,[]⟩)] []))
theorem jel (s1:qL) (s2:qL) (t12:Int) (n:Nat) (v:Int) (k:Z6G Unit):Z3X (Z0R j7j [] .o (pl (pl (pr (pl (pr (pr j2I))))))) (λσ=>σ.forget [0,1,12,13] []) (Z8a ([],[]) [(0,[],[])] ([4],[])) n (mkS 26 26 [(0,.val ⟨y9,false,s1,[.S]⟩),(1,.val ⟨y9,false,s2,[.S]⟩),(12,.val ⟨(.int .i64),false,t12,[]⟩),(13,.val ⟨(.int .i64),false,v,[]⟩)] []) k=Z10 (j5e s1 s2 t12) n v ((λ(k:Z6G Unit)=>(((λ(_:Unit)=>k (.exit 0) (mkS 26 26 [] [])),(λ(_:Unit)=>k .ret (mkS 26 26 [(4,.val ⟨.bool,false,false,[]⟩)] []))):(Unit->Res)×(Unit->Res))) k):=Z80 (λv:Int=>(mkS 26 26 [(0,.val ⟨y9,false,s1,[.S]⟩),(1,.val ⟨y9,false,s2,[.S]⟩),(12,.val ⟨(.int .i64),false,t12,[]⟩),(13,.val ⟨(.int .i64),false,v,[]⟩)] [])) (j5e s1 s2 t12) (λ(k:Z6G Unit)=>(((λ(_:Unit)=>k (.exit 0) (mkS 26 26 [] [])),(λ(_:Unit)=>k .ret (mkS 26 26 [(4,.val ⟨.bool,false,false,[]⟩)] []))):(Unit->Res)×(Unit->Res))) (λv rec k=>by kernel_rfl) n v k
theorem jen {W0:Base} {M:Nat->Prop} (hnp:W0.np<=0):Z1W Tryz.prog W0 M (pl (pr (pl (pr (pr j2I))))) j3w:=show Z1W Tryz.prog W0 M (Code.loop (pl (pl (pr (pl (pr (pr j2I))))))) j3w from Z8X (Z6Q follows j01 (Z7K Z8W) hnp [] (pl (pl (pr (pl (pr (pr j2I)))))) .o trivial) (ks:=[0,1,12,13]) (bs:=[]) (fX:=(Z8a ([],[]) [(0,[],[])] ([4],[]))) (Z8U _ _ _) Z0Y (by
 intro σ k r h
 obtain ⟨hn,h1⟩:=Z8G h
 obtain ⟨s1,hs0,h2⟩:=Z8J h1
 obtain ⟨s2,hs1,h3⟩:=Z8J h2
 obtain ⟨t12,hs12,h4⟩:=Z8J h3
 obtain ⟨t13,hs13,h5⟩:=Z8J h4
 refine ⟨_,?_,(jel s1 s2 t12 Z0Y (t13) k).trans h5⟩
 exact Z9e hn ⟨hs0,hs1,hs12,hs13,trivial⟩ trivial)
noncomputable def j3z (s1:qL) (s2:qL) (k0:Bool->Res):Res:=
 bif ((nI (List.length s1)) != (nI (List.length s2))) then
  k0 false
 else
  j6z s1 s2 (nI (List.length s1)) Z0Y 0
   (λ(_:Unit)=>
    k0 true)
   (λ(_:Unit)=>
    k0 false)
noncomputable def jbl:Sig Unit:=⟨[.look y9 false,.look y9 false],[false],λvals ext k=>av vals y9 λs1 vals=>av vals y9 λs2 vals=>nl vals<|nl ext<|j3z s1 s2 (λ(r0:Bool)=>k [⟨.bool,false,r0,[]⟩] [] [])⟩
theorem jft (s1:qL) (a_s1:Bool) (t_s1:List Tag) (s2:qL) (a_s2:Bool) (t_s2:List Tag) (k:qK):Z6X j7j [j3w] (.t .o (.t .o (.t (.t .o (.t (.x 0) .o)) .o))) false Tryz.f122 [.look y9 false,.look y9 false] [false] [⟨y9,a_s1,s1,t_s1⟩,⟨y9,a_s2,s2,t_s2⟩] [] k=j3z s1 s2 (λ(r0:Bool)=>k [⟨.bool,false,r0,[]⟩] [] []):=by kernel_rfl
theorem jfy:Z1k Tryz.prog 122 jbl:=Z8N (Γ:=j7j) (X:=[j3w]) (ht:=(.t .o (.t .o (.t (.t .o (.t (.x 0) .o)) .o)))) (fz:=false) (c:=j2I) follows j01 Z8W (Z1A.mk trivial ((Z1A.mk trivial ((Z1A.mk ((Z1A.mk trivial ((Z1A.mk (Z1A.x_mk (λW0 M hnp=>jen (W0:=W0) (M:=M) hnp)) trivial)))) trivial))))) Tryz.func122 (by kernel_rfl) (by kernel_rfl) (by decide) (by
 intro vals ext k r h
 obtain ⟨s1,a_s1,t_s1,vals,rfl,h1⟩:=Z8T h
 obtain ⟨s2,a_s2,t_s2,vals,rfl,h2⟩:=Z8T h1
 obtain ⟨rfl,h3⟩:=Z90 h2
 obtain ⟨rfl,h4⟩:=Z90 h3
 exact (jft s1 a_s1 t_s1 s2 a_s2 t_s2 k).trans h4)
end Go.PI.G
namespace Go.PI.G
open Go Go.PI Go.Proofs
open Go.Code (pl pr)
noncomputable def jq5:Code:=(Tryz.f159.body).getD .skip
noncomputable def jhT:Env Unit:=⟨tys,[(68,j8n),(157,jc3)],0⟩
noncomputable def jad (c:qB×Int×Bool×Bool×Int×Int×qB) (k0:Bool->Res):Res:=
 j26 c.1 λ(r:Bool)=>
  bif !r then
   k0 false
  else
   bif decide (c.2.1<1) then
    k0 false
   else
    bif decide (c.2.1>3) then
     k0 false
    else
     bif !c.2.2.2.1 then
      k0 ((c.2.2.2.2.1==0)&&((c.2.2.2.2.2.1==0)&&(sEq c.2.2.2.2.2.2 eS)))
     else
      j7P c.2.2.2.2 λ(r1:Bool)=>
       bif r1 then
        bif ((c.2.2.2.2.1==0)&&((c.2.2.2.2.2.1==0)&&(sEq c.2.2.2.2.2.2 eS))) then
         bif ((c.2.2.2.2.1==0)&&((c.2.2.2.2.2.1==0)&&(sEq c.2.2.2.2.2.2 eS))) then
          k0 (!c.2.2.1)
         else
          k0 true
        else
         bif (c.2.2.2.2.1==c.2.1) then
          bif ((c.2.2.2.2.1==0)&&((c.2.2.2.2.2.1==0)&&(sEq c.2.2.2.2.2.2 eS))) then
           k0 (!c.2.2.1)
          else
           k0 true
         else
          k0 false
       else
        k0 false
noncomputable def jec:Sig Unit:=⟨[.look y7 true],[false],λvals ext k=>av vals y7 λc vals=>nl vals<|nl ext<|jad c (λ(r0:Bool)=>k [⟨.bool,false,r0,[]⟩] [] [])⟩
theorem jpL (c:qB×Int×Bool×Bool×Int×Int×qB) (a_c:Bool) (t_c:List Tag) (k:qK):Z6X jhT [] .o false Tryz.f159 [.look y7 true] [false] [⟨y7,a_c,c,t_c⟩] [] k=jad c (λ(r0:Bool)=>k [⟨.bool,false,r0,[]⟩] [] []):=by kernel_rfl
theorem j76:Z1k Tryz.prog 159 jec:=Z8N (Γ:=jhT) (X:=[]) (ht:= .o) (fz:=false) (c:=jq5) follows j01 (Z8C j2r (Z8C j79 Z8W)) trivial Tryz.func159 (by kernel_rfl) (by kernel_rfl) (by decide) (by
 intro vals ext k r h
 obtain ⟨c,a_c,t_c,vals,rfl,h1⟩:=Z8T h
 obtain ⟨rfl,h2⟩:=Z90 h1
 obtain ⟨rfl,h3⟩:=Z90 h2
 exact (jpL c a_c t_c k).trans h3)
noncomputable def j9n:Code:=(Tryz.f209.body).getD .skip
noncomputable def jdU:Env Unit:=⟨tys,[],0⟩
noncomputable def j6f (name:qB) (t8:List qC) (t9:Int) (t10:Int) (rec:Int->Res) (k0:Unit->Res) (k1:Int->Res):Res:=
 bif decide (t10<t9) then
  bif inb t10 (List.length t8) then
   bif sEq (nth (eS,0,false,false,0,0,eS) t8 t10).1 name then
    k1 t10
   else
    rec (Z8g (t10+1))
  else none
 else
  k0 ()
noncomputable def j94 (name:qB) (t8:List qC) (t9:Int):Int->(Int->Res)->((Unit->Res)×(Int->Res))->Res:=λv rec q=>j6f name t8 t9 v (λt10=>rec (t10)) q.1 q.2
noncomputable def jdx (name:qB) (t8:List qC) (t9:Int) (n:Nat) (t10:Int) (k0:Unit->Res) (k1:Int->Res):Res:=Z10 (j94 name t8 t9) n (t10) (k0,k1)
noncomputable def jak:Z1l Unit:=λσ k=>rdN σ 21<|rdV σ 1 .str false [] λname=>rdV σ 8 y8 false [.S] λt8=>rdV σ 9 (.int .i64) false [] λt9=>rdV σ 10 (.int .i64) false [] λt10=>jdx name t8 t9 Z0Y t10 (λ(_:Unit)=>k (.exit 0) (mkS 21 21 [] [])) (λ(t4:Int)=>k .ret (mkS 21 21 [(4,.val ⟨(.int .i64),false,t4,[]⟩)] []))
theorem jo1 (name:qB) (t8:List qC) (t9:Int) (n:Nat) (v:Int) (k:Z6G Unit):Z3X (Z0R jdU [] .o (pl (pl (pr (pl (pr j9n)))))) (λσ=>σ.forget [1,8,9,10] []) (Z8a ([],[]) [(0,[],[])] ([4],[])) n (mkS 21 21 [(1,.val ⟨.str,false,name,[]⟩),(8,.val ⟨y8,false,t8,[.S]⟩),(9,.val ⟨(.int .i64),false,t9,[]⟩),(10,.val ⟨(.int .i64),false,v,[]⟩)] []) k=Z10 (j94 name t8 t9) n v ((λ(k:Z6G Unit)=>(((λ(_:Unit)=>k (.exit 0) (mkS 21 21 [] [])),(λ(t4:Int)=>k .ret (mkS 21 21 [(4,.val ⟨(.int .i64),false,t4,[]⟩)] []))):(Unit->Res)×(Int->Res))) k):=Z80 (λv:Int=>(mkS 21 21 [(1,.val ⟨.str,false,name,[]⟩),(8,.val ⟨y8,false,t8,[.S]⟩),(9,.val ⟨(.int .i64),false,t9,[]⟩),(10,.val ⟨(.int .i64),false,v,[]⟩)] [])) (j94 name t8 t9) (λ(k:Z6G Unit)=>(((λ(_:Unit)=>k (.exit 0) (mkS 21 21 [] [])),(λ(t4:Int)=>k .ret (mkS 21 21 [(4,.val ⟨(.int .i64),false,t4,[]⟩)] []))):(Unit->Res)×(Int->Res))) (λv rec k=>by kernel_rfl) n v k
theorem jog {W0:Base} {M:Nat->Prop} (hnp:W0.np<=0):Z1W Tryz.prog W0 M (pl (pr (pl (pr j9n)))) jak:=show Z1W Tryz.prog W0 M (Code.loop (pl (pl (pr (pl (pr j9n)))))) jak from Z8X (Z6Q follows j01 (Z7K Z8W) hnp [] (pl (pl (pr (pl (pr j9n))))) .o trivial) (ks:=[1,8,9,10]) (bs:=[]) (fX:=(Z8a ([],[]) [(0,[],[])] ([4],[]))) (Z8U _ _ _) Z0Y (by
 intro σ k r h
 obtain ⟨hn,h1⟩:=Z8G h
 obtain ⟨name,hs1,h2⟩:=Z8J h1
 obtain ⟨t8,hs8,h3⟩:=Z8J h2
 obtain ⟨t9,hs9,h4⟩:=Z8J h3
 obtain ⟨t10,hs10,h5⟩:=Z8J h4
 refine ⟨_,?_,(jo1 name t8 t9 Z0Y (t10) k).trans h5⟩
 exact Z9e hn ⟨hs1,hs8,hs9,hs10,trivial⟩ trivial)
noncomputable def jac (t:qB×qE×qL) (name:qB) (k0:Int->Res):Res:=
 jdx name t.2.1 (nI (List.length t.2.1)) Z0Y 0
  (λ(_:Unit)=>
   k0 (-1))
  (λ(t1:Int)=>
   k0 t1)
noncomputable def jih:Sig Unit:=⟨[.look y27 true,.look .str false],[false],λvals ext k=>av vals y27 λt vals=>av vals .str λname vals=>nl vals<|nl ext<|jac t name (λ(r0:Int)=>k [⟨(.int .i64),false,r0,[]⟩] [] [])⟩
theorem jpK (t:qB×qE×qL) (a_t:Bool) (t_t:List Tag) (name:qB) (a_name:Bool) (t_name:List Tag) (k:qK):Z6X jdU [jak] (.t .o (.t (.t .o (.t (.x 0) .o)) .o)) false Tryz.f209 [.look y27 true,.look .str false] [false] [⟨y27,a_t,t,t_t⟩,⟨.str,a_name,name,t_name⟩] [] k=jac t name (λ(r0:Int)=>k [⟨(.int .i64),false,r0,[]⟩] [] []):=by kernel_rfl
theorem jbs:Z1k Tryz.prog 209 jih:=Z8N (Γ:=jdU) (X:=[jak]) (ht:=(.t .o (.t (.t .o (.t (.x 0) .o)) .o))) (fz:=false) (c:=j9n) follows j01 Z8W (Z1A.mk trivial ((Z1A.mk ((Z1A.mk trivial ((Z1A.mk (Z1A.x_mk (λW0 M hnp=>jog (W0:=W0) (M:=M) hnp)) trivial)))) trivial))) Tryz.func209 (by kernel_rfl) (by kernel_rfl) (by decide) (by
 intro vals ext k r h
 obtain ⟨t,a_t,t_t,vals,rfl,h1⟩:=Z8T h
 obtain ⟨name,a_name,t_name,vals,rfl,h2⟩:=Z8T h1
 obtain ⟨rfl,h3⟩:=Z90 h2
 obtain ⟨rfl,h4⟩:=Z90 h3
 exact (jpK t a_t t_t name a_name t_name k).trans h4)
noncomputable def j17:Code:=(Tryz.f158.body).getD .skip
noncomputable def j7l:Env Unit:=⟨tys,[(68,j8n),(159,jec),(209,jih)],0⟩
noncomputable def j6h (t:qB×qE×qL) (k0:Bool->Res):Res:=
 j26 t.1 λ(r:Bool)=>
  bif !r then
   k0 true
  else
   bif decide ((nI (List.length t.2.1))<1) then
    k0 true
   else
    bif decide ((nI (List.length t.2.1))>8) then
     k0 true
    else
     k0 (decide ((nI (List.length t.2.2))<1))
noncomputable def j2B:Z1l Unit:=λσ k=>rdN σ 75<|rdT σ 1 (.ptr ⟨true,1,[]⟩)<|rdB σ 1 y27 [.S,.S] λa t=>j6h t (λ(t30:Bool)=>k .normal (mkS 75 75 [(1,.ptr ⟨true,1,[]⟩),(30,.val ⟨.bool,false,t30,[]⟩)] [(1,⟨y27,a,t,[.S,.S]⟩)]))
theorem jkd (a:Bool) (t:qB×qE×qL) (k:Z6G Unit):Z0R j7l [] .o (pl (pl (pr j17))) (mkS 75 75 [(1,.ptr ⟨true,1,[]⟩)] [(1,⟨y27,a,t,[.S,.S]⟩)]) (λe σ=>k e ((Z8a ([1,30],[1]) [] ([],[])) e σ))=j6h t (λ(t30:Bool)=>k .normal (mkS 75 75 [(1,.ptr ⟨true,1,[]⟩),(30,.val ⟨.bool,false,t30,[]⟩)] [(1,⟨y27,a,t,[.S,.S]⟩)])):=by kernel_rfl
theorem jl0 {W0:Base} {M:Nat->Prop} (hnp:W0.np<=0):Z1W Tryz.prog W0 M (pl (pl (pr j17))) j2B:=Z91 (Z6Q follows j01 (Z7K (Z8C j2r (Z8C j76 (Z8C jbs Z8W)))) hnp [] ((pl (pl (pr j17)))) .o trivial) (fg:=(Z8a ([1,30],[1]) [] ([],[]))) (Z8U _ _ _) (by
 intro σ k r h
 obtain ⟨hn,h1⟩:=Z8G h
 obtain ⟨hs1,h2⟩:=Z8H h1
 obtain ⟨a,t,hb1,h3⟩:=Z8D h2
 refine ⟨_,?_,(jkd a t k).trans h3⟩
 exact Z9e hn ⟨hs1,trivial⟩ ⟨hb1,trivial⟩)
noncomputable def j4t (t32:List qC) (t33:Int) (t:qB×qE×qL) (t34:Int) (rec:Int->Res) (k0:Unit->Res) (k1:Unit->Res):Res:=
 bif decide (t34<t33) then
  bif inb t34 (List.length t32) then
   jad (nth (eS,0,false,false,0,0,eS) t32 t34) λ(r:Bool)=>
    bif !r then
     k1 ()
    else
     jac t (nth (eS,0,false,false,0,0,eS) t32 t34).1 λ(r1:Int)=>
      bif (r1 != t34) then
       k1 ()
      else
       rec (Z8g (t34+1))
  else none
 else
  k0 ()
noncomputable def j6K (t32:List qC) (t33:Int) (t:qB×qE×qL):Int->(Int->Res)->((Unit->Res)×(Unit->Res))->Res:=λv rec q=>j4t t32 t33 t v (λt34=>rec (t34)) q.1 q.2
noncomputable def j95 (t32:List qC) (t33:Int) (t:qB×qE×qL) (n:Nat) (t34:Int) (k0:Unit->Res) (k1:Unit->Res):Res:=Z10 (j6K t32 t33 t) n (t34) (k0,k1)
noncomputable def j3L:Z1l Unit:=λσ k=>rdN σ 75<|rdT σ 1 (.ptr ⟨true,1,[]⟩)<|rdV σ 32 y8 false [.S] λt32=>rdV σ 33 (.int .i64) false [] λt33=>rdV σ 34 (.int .i64) false [] λt34=>rdB σ 1 y27 [.S,.S] λa t=>j95 t32 t33 t Z0Y t34 (λ(_:Unit)=>k (.exit 0) (mkS 75 75 [(1,.ptr ⟨true,1,[]⟩)] [(1,⟨y27,a,t,[.S,.S]⟩)])) (λ(_:Unit)=>k .ret (mkS 75 75 [(2,.val ⟨.bool,false,false,[]⟩)] []))
theorem jkb (t32:List qC) (t33:Int) (a:Bool) (t:qB×qE×qL) (n:Nat) (v:Int) (k:Z6G Unit):Z3X (Z0R j7l [j2B] .o (pl (pl (pr (pl (pr (pr j17))))))) (λσ=>σ.forget [1,32,33,34] [1]) (Z8a ([],[]) [(0,[1],[1])] ([2],[])) n (mkS 75 75 [(1,.ptr ⟨true,1,[]⟩),(32,.val ⟨y8,false,t32,[.S]⟩),(33,.val ⟨(.int .i64),false,t33,[]⟩),(34,.val ⟨(.int .i64),false,v,[]⟩)] [(1,⟨y27,a,t,[.S,.S]⟩)]) k=Z10 (j6K t32 t33 t) n v ((λ(k:Z6G Unit)=>(((λ(_:Unit)=>k (.exit 0) (mkS 75 75 [(1,.ptr ⟨true,1,[]⟩)] [(1,⟨y27,a,t,[.S,.S]⟩)])),(λ(_:Unit)=>k .ret (mkS 75 75 [(2,.val ⟨.bool,false,false,[]⟩)] []))):(Unit->Res)×(Unit->Res))) k):=Z80 (λv:Int=>(mkS 75 75 [(1,.ptr ⟨true,1,[]⟩),(32,.val ⟨y8,false,t32,[.S]⟩),(33,.val ⟨(.int .i64),false,t33,[]⟩),(34,.val ⟨(.int .i64),false,v,[]⟩)] [(1,⟨y27,a,t,[.S,.S]⟩)])) (j6K t32 t33 t) (λ(k:Z6G Unit)=>(((λ(_:Unit)=>k (.exit 0) (mkS 75 75 [(1,.ptr ⟨true,1,[]⟩)] [(1,⟨y27,a,t,[.S,.S]⟩)])),(λ(_:Unit)=>k .ret (mkS 75 75 [(2,.val ⟨.bool,false,false,[]⟩)] []))):(Unit->Res)×(Unit->Res))) (λv rec k=>by kernel_rfl) n v k
theorem jkY {W0:Base} {M:Nat->Prop} (hnp:W0.np<=0):Z1W Tryz.prog W0 M (pl (pr (pl (pr (pr j17))))) j3L:=show Z1W Tryz.prog W0 M (Code.loop (pl (pl (pr (pl (pr (pr j17))))))) j3L from Z8X (Z6Q follows j01 (Z7K (Z8C j2r (Z8C j76 (Z8C jbs Z8W)))) hnp [j2B] (pl (pl (pr (pl (pr (pr j17)))))) .o trivial) (ks:=[1,32,33,34]) (bs:=[1]) (fX:=(Z8a ([],[]) [(0,[1],[1])] ([2],[]))) (Z8U _ _ _) Z0Y (by
 intro σ k r h
 obtain ⟨hn,h1⟩:=Z8G h
 obtain ⟨hs1,h2⟩:=Z8H h1
 obtain ⟨t32,hs32,h3⟩:=Z8J h2
 obtain ⟨t33,hs33,h4⟩:=Z8J h3
 obtain ⟨t34,hs34,h5⟩:=Z8J h4
 obtain ⟨a,t,hb1,h6⟩:=Z8D h5
 refine ⟨_,?_,(jkb t32 t33 a t Z0Y (t34) k).trans h6⟩
 exact Z9e hn ⟨hs1,hs32,hs33,hs34,trivial⟩ ⟨hb1,trivial⟩)
noncomputable def j4u (t52:qL) (t53:Int) (t:qB×qE×qL) (last:Int) (t54:Int) (rec:Int->Int->Res) (k0:Unit->Res) (k1:Unit->Res):Res:=
 bif decide (t54<t53) then
  bif inb t54 (List.length t52) then
   jac t (nth eS t52 t54) λ(r:Int)=>
    bif decide (r<=last) then
     k1 ()
    else
     bif inb r (List.length t.2.1) then
      bif !(nth (eS,0,false,false,0,0,eS) t.2.1 r).2.2.1 then
       k1 ()
      else
       rec r (Z8g (t54+1))
     else none
  else none
 else
  k0 ()
noncomputable def j6L (t52:qL) (t53:Int) (t:qB×qE×qL):(Int×Int)->(Int×Int->Res)->((Unit->Res)×(Unit->Res))->Res:=λv rec q=>j4u t52 t53 t v.1 v.2 (λlast t54=>rec (last,t54)) q.1 q.2
noncomputable def j96 (t52:qL) (t53:Int) (t:qB×qE×qL) (n:Nat) (last:Int) (t54:Int) (k0:Unit->Res) (k1:Unit->Res):Res:=Z10 (j6L t52 t53 t) n (last,t54) (k0,k1)
noncomputable def j7Y:Z1l Unit:=λσ k=>rdN σ 75<|rdT σ 1 (.ptr ⟨true,1,[]⟩)<|rdV σ 5 (.int .i64) false [] λlast=>rdV σ 52 y9 false [.S] λt52=>rdV σ 53 (.int .i64) false [] λt53=>rdV σ 54 (.int .i64) false [] λt54=>rdB σ 1 y27 [.S,.S] λa t=>j96 t52 t53 t Z0Y last t54 (λ(_:Unit)=>k (.exit 2) (mkS 75 75 [] [])) (λ(_:Unit)=>k .ret (mkS 75 75 [(2,.val ⟨.bool,false,false,[]⟩)] []))
theorem jkc (t52:qL) (t53:Int) (a:Bool) (t:qB×qE×qL) (n:Nat) (v:Int×Int) (k:Z6G Unit):Z3X (Z0R j7l [j2B,j3L] .o (pl (pl (pr (pl (pr (pr (pr (pr j17))))))))) (λσ=>σ.forget [1,5,52,53,54] [1]) (Z8a ([],[]) [(2,[],[])] ([2],[])) n (mkS 75 75 [(1,.ptr ⟨true,1,[]⟩),(5,.val ⟨(.int .i64),false,v.1,[]⟩),(52,.val ⟨y9,false,t52,[.S]⟩),(53,.val ⟨(.int .i64),false,t53,[]⟩),(54,.val ⟨(.int .i64),false,v.2,[]⟩)] [(1,⟨y27,a,t,[.S,.S]⟩)]) k=Z10 (j6L t52 t53 t) n v ((λ(k:Z6G Unit)=>(((λ(_:Unit)=>k (.exit 2) (mkS 75 75 [] [])),(λ(_:Unit)=>k .ret (mkS 75 75 [(2,.val ⟨.bool,false,false,[]⟩)] []))):(Unit->Res)×(Unit->Res))) k):=Z80 (λv:Int×Int=>(mkS 75 75 [(1,.ptr ⟨true,1,[]⟩),(5,.val ⟨(.int .i64),false,v.1,[]⟩),(52,.val ⟨y9,false,t52,[.S]⟩),(53,.val ⟨(.int .i64),false,t53,[]⟩),(54,.val ⟨(.int .i64),false,v.2,[]⟩)] [(1,⟨y27,a,t,[.S,.S]⟩)])) (j6L t52 t53 t) (λ(k:Z6G Unit)=>(((λ(_:Unit)=>k (.exit 2) (mkS 75 75 [] [])),(λ(_:Unit)=>k .ret (mkS 75 75 [(2,.val ⟨.bool,false,false,[]⟩)] []))):(Unit->Res)×(Unit->Res))) (λv rec k=>by kernel_rfl) n v k
theorem jkZ {W0:Base} {M:Nat->Prop} (hnp:W0.np<=0):Z1W Tryz.prog W0 M (pl (pr (pl (pr (pr (pr (pr j17))))))) j7Y:=show Z1W Tryz.prog W0 M (Code.loop (pl (pl (pr (pl (pr (pr (pr (pr j17))))))))) j7Y from Z8X (Z6Q follows j01 (Z7K (Z8C j2r (Z8C j76 (Z8C jbs Z8W)))) hnp [j2B,j3L] (pl (pl (pr (pl (pr (pr (pr (pr j17)))))))) .o trivial) (ks:=[1,5,52,53,54]) (bs:=[1]) (fX:=(Z8a ([],[]) [(2,[],[])] ([2],[]))) (Z8U _ _ _) Z0Y (by
 intro σ k r h
 obtain ⟨hn,h1⟩:=Z8G h
 obtain ⟨hs1,h2⟩:=Z8H h1
 obtain ⟨last,hs5,h3⟩:=Z8J h2
 obtain ⟨t52,hs52,h4⟩:=Z8J h3
 obtain ⟨t53,hs53,h5⟩:=Z8J h4
 obtain ⟨t54,hs54,h6⟩:=Z8J h5
 obtain ⟨a,t,hb1,h7⟩:=Z8D h6
 refine ⟨_,?_,(jkc t52 t53 a t Z0Y (last,t54) k).trans h7⟩
 exact Z9e hn ⟨hs1,hs5,hs52,hs53,hs54,trivial⟩ ⟨hb1,trivial⟩)
noncomputable def j9I (t:qB×qE×qL) (k0:Bool->Res):Res:=
 j6h t λ(t1:Bool)=>
  bif t1 then
   k0 false
  else
   j95 t.2.1 (nI (List.length t.2.1)) t Z0Y 0
    (λ(_:Unit)=>
     j96 t.2.2 (nI (List.length t.2.2)) t Z0Y (-1) 0
      (λ(_:Unit)=>
       k0 true)
      (λ(_:Unit)=>
       k0 false))
    (λ(_:Unit)=>
     k0 false)
noncomputable def jg9:Sig Unit:=⟨[.look y27 true],[false],λvals ext k=>av vals y27 λt vals=>nl vals<|nl ext<|j9I t (λ(r0:Bool)=>k [⟨.bool,false,r0,[]⟩] [] [])⟩
theorem jnp (t:qB×qE×qL) (a_t:Bool) (t_t:List Tag) (k:qK):Z6X j7l [j2B,j3L,j7Y] (.t .o (.t (.t (.x 0) .o) (.t (.t .o (.t (.x 1) .o)) (.t .o (.t (.t .o (.t (.x 2) .o)) .o))))) false Tryz.f158 [.look y27 true] [false] [⟨y27,a_t,t,t_t⟩] [] k=j9I t (λ(r0:Bool)=>k [⟨.bool,false,r0,[]⟩] [] []):=by kernel_rfl
theorem jfz:Z1k Tryz.prog 158 jg9:=Z8N (Γ:=j7l) (X:=[j2B,j3L,j7Y]) (ht:=(.t .o (.t (.t (.x 0) .o) (.t (.t .o (.t (.x 1) .o)) (.t .o (.t (.t .o (.t (.x 2) .o)) .o)))))) (fz:=false) (c:=j17) follows j01 (Z8C j2r (Z8C j76 (Z8C jbs Z8W))) (Z1A.mk trivial ((Z1A.mk ((Z1A.mk (Z1A.x_mk (λW0 M hnp=>jl0 (W0:=W0) (M:=M) hnp)) trivial)) ((Z1A.mk ((Z1A.mk trivial ((Z1A.mk (Z1A.x_mk (λW0 M hnp=>jkY (W0:=W0) (M:=M) hnp)) trivial)))) ((Z1A.mk trivial ((Z1A.mk ((Z1A.mk trivial ((Z1A.mk (Z1A.x_mk (λW0 M hnp=>jkZ (W0:=W0) (M:=M) hnp)) trivial)))) trivial))))))))) Tryz.func158 (by kernel_rfl) (by kernel_rfl) (by decide) (by
 intro vals ext k r h
 obtain ⟨t,a_t,t_t,vals,rfl,h1⟩:=Z8T h
 obtain ⟨rfl,h2⟩:=Z90 h1
 obtain ⟨rfl,h3⟩:=Z90 h2
 exact (jnp t a_t t_t k).trans h3)
noncomputable def jbw:Code:=(Tryz.f71.body).getD .skip
noncomputable def jdV:Env Unit:=⟨tys,[(68,j8n),(158,jg9),(159,jec)],0⟩
noncomputable def j8o (d:qG) (k0:Bool->Res):Res:=
 bif ((nI (List.length d.2.2.1))==0) then
  k0 ((nI (List.length d.2.2.2.1))==0)
 else
  k0 false
noncomputable def jcX:Z1l Unit:=λσ k=>rdN σ 123<|rdT σ 1 (.ptr ⟨true,1,[]⟩)<|rdB σ 1 y14 [.S,.S] λa d=>j8o d (λ(plain:Bool)=>k .normal (mkS 123 123 [(1,.ptr ⟨true,1,[]⟩),(3,.val ⟨.bool,false,plain,[]⟩)] [(1,⟨y14,a,d,[.S,.S]⟩)]))
theorem jo2 (a:Bool) (d:qG) (k:Z6G Unit):Z0R jdV [] .o (pl (pr (pr jbw))) (mkS 123 123 [(1,.ptr ⟨true,1,[]⟩)] [(1,⟨y14,a,d,[.S,.S]⟩)]) (λe σ=>k e ((Z8a ([1,3],[1]) [] ([],[])) e σ))=j8o d (λ(plain:Bool)=>k .normal (mkS 123 123 [(1,.ptr ⟨true,1,[]⟩),(3,.val ⟨.bool,false,plain,[]⟩)] [(1,⟨y14,a,d,[.S,.S]⟩)])):=by kernel_rfl
theorem joh {W0:Base} {M:Nat->Prop} (hnp:W0.np<=0):Z1W Tryz.prog W0 M (pl (pr (pr jbw))) jcX:=Z91 (Z6Q follows j01 (Z7K (Z8C j2r (Z8C jfz (Z8C j76 Z8W)))) hnp [] ((pl (pr (pr jbw)))) .o trivial) (fg:=(Z8a ([1,3],[1]) [] ([],[]))) (Z8U _ _ _) (by
 intro σ k r h
 obtain ⟨hn,h1⟩:=Z8G h
 obtain ⟨hs1,h2⟩:=Z8H h1
 obtain ⟨a,d,hb1,h3⟩:=Z8D h2
 refine ⟨_,?_,(jo2 a d k).trans h3⟩
 exact Z9e hn ⟨hs1,trivial⟩ ⟨hb1,trivial⟩)
noncomputable def jae (d:qG) (k0:Bool->Res):Res:=
 j26 d.2.1 λ(r:Bool)=>
  bif !r then
   k0 false
  else
   j8o d λ(plain:Bool)=>
    bif (d.1==1) then
     bif sEq d.2.2.2.2.1 eS then
      bif sEq d.2.2.2.2.2 eS then
       j9I (d.2.1,d.2.2.1,d.2.2.2.1) λ(r1:Bool)=>
        k0 r1
      else
       k0 false
     else
      k0 false
    else
     bif (d.1==2) then
      bif plain then
       bif sEq d.2.2.2.2.1 eS then
        k0 (sEq d.2.2.2.2.2 eS)
       else
        k0 false
      else
       k0 false
     else
      bif (d.1==3) then
       bif ((nI (List.length d.2.2.1))==1) then
        bif inb 0 (List.length d.2.2.1) then
         jad (nth (eS,0,false,false,0,0,eS) d.2.2.1 0) λ(r2:Bool)=>
          bif r2 then
           bif inb 0 (List.length d.2.2.1) then
            bif (nth (eS,0,false,false,0,0,eS) d.2.2.1 0).2.2.2.1 then
             bif ((nI (List.length d.2.2.2.1))==0) then
              bif sEq d.2.2.2.2.1 eS then
               k0 (sEq d.2.2.2.2.2 eS)
              else
               k0 false
             else
              k0 false
            else
             bif inb 0 (List.length d.2.2.1) then
              bif !(nth (eS,0,false,false,0,0,eS) d.2.2.1 0).2.2.1 then
               bif ((nI (List.length d.2.2.2.1))==0) then
                bif sEq d.2.2.2.2.1 eS then
                 k0 (sEq d.2.2.2.2.2 eS)
                else
                 k0 false
               else
                k0 false
              else
               k0 false
             else none
           else none
          else
           k0 false
        else none
       else
        k0 false
      else
       bif (d.1==4) then
        bif plain then
         j26 d.2.2.2.2.1 λ(r3:Bool)=>
          bif r3 then
           k0 (sEq d.2.2.2.2.2 eS)
          else
           k0 false
        else
         k0 false
       else
        bif (d.1==5) then
         bif plain then
          j26 d.2.2.2.2.1 λ(r4:Bool)=>
           bif r4 then
            j26 d.2.2.2.2.2 λ(r5:Bool)=>
             k0 r5
           else
            k0 false
         else
          k0 false
        else
         k0 false
noncomputable def jed:Sig Unit:=⟨[.look y14 true],[false],λvals ext k=>av vals y14 λd vals=>nl vals<|nl ext<|jae d (λ(r0:Bool)=>k [⟨.bool,false,r0,[]⟩] [] [])⟩
theorem jpM (d:qG) (a_d:Bool) (t_d:List Tag) (k:qK):Z6X jdV [jcX] (.t .o (.t .o (.t (.x 0) .o))) false Tryz.f71 [.look y14 true] [false] [⟨y14,a_d,d,t_d⟩] [] k=jae d (λ(r0:Bool)=>k [⟨.bool,false,r0,[]⟩] [] []):=by kernel_rfl
theorem jdL:Z1k Tryz.prog 71 jed:=Z8N (Γ:=jdV) (X:=[jcX]) (ht:=(.t .o (.t .o (.t (.x 0) .o)))) (fz:=false) (c:=jbw) follows j01 (Z8C j2r (Z8C jfz (Z8C j76 Z8W))) (Z1A.mk trivial ((Z1A.mk trivial ((Z1A.mk (Z1A.x_mk (λW0 M hnp=>joh (W0:=W0) (M:=M) hnp)) trivial))))) Tryz.func71 (by kernel_rfl) (by kernel_rfl) (by decide) (by
 intro vals ext k r h
 obtain ⟨d,a_d,t_d,vals,rfl,h1⟩:=Z8T h
 obtain ⟨rfl,h2⟩:=Z90 h1
 obtain ⟨rfl,h3⟩:=Z90 h2
 exact (jpM d a_d t_d k).trans h3)
noncomputable def jjN:Code:=(Tryz.f210.body).getD .skip
noncomputable def jdS:Env Unit:=⟨tys,[],0⟩
noncomputable def j4V (l:qL) (k0:qL->Res):Res:=
 bif lim (0+(List.length l)) then
  k0 l
 else none
noncomputable def jb4:Sig Unit:=⟨[.borrow y9 false],[false],λvals ext k=>av vals y9 λl vals=>nl vals<|nl ext<|j4V l (λ(r0:qL)=>k [⟨y9,false,r0,[.O]⟩] [] [])⟩
theorem jjF (l:qL) (a_l:Bool) (t_l:List Tag) (k:qK):Z6X jdS [] .o false Tryz.f210 [.borrow y9 false] [false] [⟨y9,a_l,l,t_l⟩] [] k=j4V l (λ(r0:qL)=>k [⟨y9,false,r0,[.O]⟩] [] []):=by kernel_rfl
theorem jaS:Z1k Tryz.prog 210 jb4:=Z8N (Γ:=jdS) (X:=[]) (ht:= .o) (fz:=false) (c:=jjN) follows j01 Z8W trivial Tryz.func210 (by kernel_rfl) (by kernel_rfl) (by decide) (by
 intro vals ext k r h
 obtain ⟨l,a_l,t_l,vals,rfl,h1⟩:=Z8T h
 obtain ⟨rfl,h2⟩:=Z90 h1
 obtain ⟨rfl,h3⟩:=Z90 h2
 exact (jjF l a_l t_l k).trans h3)
noncomputable def jjM:Code:=(Tryz.f247.body).getD .skip
noncomputable def jdR:Env Unit:=⟨tys,[(210,jb4)],0⟩
noncomputable def ja2 (t:qB×qE×qL) (k0:qT->Res):Res:=
 bif lim (0+(List.length t.2.1)) then
  j4V t.2.2 λ(r:qL)=>
   k0 (t.1,t.2.1,r)
 else none
noncomputable def je9:Sig Unit:=⟨[.borrow y27 true],[true],λvals ext k=>av vals y27 λt vals=>nl vals<|nl ext<|ja2 t (λ(r0:qB×qE×qL)=>k [⟨y27,true,r0,[.O,.O]⟩] [] [])⟩
theorem jjE (t:qB×qE×qL) (a_t:Bool) (t_t:List Tag) (k:qK):Z6X jdR [] .o false Tryz.f247 [.borrow y27 true] [true] [⟨y27,a_t,t,t_t⟩] [] k=ja2 t (λ(r0:qB×qE×qL)=>k [⟨y27,true,r0,[.O,.O]⟩] [] []):=by kernel_rfl
theorem jjK:Z1k Tryz.prog 247 je9:=Z8N (Γ:=jdR) (X:=[]) (ht:= .o) (fz:=false) (c:=jjM) follows j01 (Z8C jaS Z8W) trivial Tryz.func247 (by kernel_rfl) (by kernel_rfl) (by decide) (by
 intro vals ext k r h
 obtain ⟨t,a_t,t_t,vals,rfl,h1⟩:=Z8T h
 obtain ⟨rfl,h2⟩:=Z90 h1
 obtain ⟨rfl,h3⟩:=Z90 h2
 exact (jjE t a_t t_t k).trans h3)
noncomputable def jm7:Code:=(Tryz.f200.body).getD .skip
noncomputable def jey:Env Unit:=⟨tys,[(247,je9)],0⟩
noncomputable def j8d (d:qG) (k0:qT->Res):Res:=
 ja2 (d.2.1,d.2.2.1,d.2.2.2.1) λ(r:qB×qE×qL)=>
  k0 r
noncomputable def jeS:Sig Unit:=⟨[.borrow y14 true],[true],λvals ext k=>av vals y14 λd vals=>nl vals<|nl ext<|j8d d (λ(r0:qB×qE×qL)=>k [⟨y27,true,r0,[.O,.O]⟩] [] [])⟩
theorem jlu (d:qG) (a_d:Bool) (t_d:List Tag) (k:qK):Z6X jey [] .o false Tryz.f200 [.borrow y14 true] [true] [⟨y14,a_d,d,t_d⟩] [] k=j8d d (λ(r0:qB×qE×qL)=>k [⟨y27,true,r0,[.O,.O]⟩] [] []):=by kernel_rfl
theorem jlY:Z1k Tryz.prog 200 jeS:=Z8N (Γ:=jey) (X:=[]) (ht:= .o) (fz:=false) (c:=jm7) follows j01 (Z8C jjK Z8W) trivial Tryz.func200 (by kernel_rfl) (by kernel_rfl) (by decide) (by
 intro vals ext k r h
 obtain ⟨d,a_d,t_d,vals,rfl,h1⟩:=Z8T h
 obtain ⟨rfl,h2⟩:=Z90 h1
 obtain ⟨rfl,h3⟩:=Z90 h2
 exact (jlu d a_d t_d k).trans h3)
noncomputable def jpV:Code:=(Tryz.f201.body).getD .skip
noncomputable def jhJ:Env Unit:=⟨tys,[(152,j8m),(174,j1B),(205,jbY)],0⟩
noncomputable def j7B (c:qB×Int×Bool×Bool×Int×Int×qB) (k0:Bool->Res):Res:=
 j2p c.1 λ(r:Bool)=>
  bif !r then
   k0 false
  else
   j0K c.2.1 1 3 λ(r1:Bool)=>
    bif !r1 then
     k0 false
    else
     j7F c.2.2.2.2 λ(r2:Bool)=>
      bif !r2 then
       k0 false
      else
       bif !c.2.2.2.1 then
        k0 ((c.2.2.2.2.1==0)&&((c.2.2.2.2.2.1==0)&&(sEq c.2.2.2.2.2.2 eS)))
       else
        bif (c.2.2.2.2.1==c.2.1) then
         k0 true
        else
         bif (c.2.2.2.2.1==0) then
          k0 (!c.2.2.1)
         else
          k0 false
noncomputable def jbW:Sig Unit:=⟨[.look y7 true],[false],λvals ext k=>av vals y7 λc vals=>nl vals<|nl ext<|j7B c (λ(r0:Bool)=>k [⟨.bool,false,r0,[]⟩] [] [])⟩
theorem jpy (c:qB×Int×Bool×Bool×Int×Int×qB) (a_c:Bool) (t_c:List Tag) (k:qK):Z6X jhJ [] .o false Tryz.f201 [.look y7 true] [false] [⟨y7,a_c,c,t_c⟩] [] k=j7B c (λ(r0:Bool)=>k [⟨.bool,false,r0,[]⟩] [] []):=by kernel_rfl
theorem j73:Z1k Tryz.prog 201 jbW:=Z8N (Γ:=jhJ) (X:=[]) (ht:= .o) (fz:=false) (c:=jpV) follows j01 (Z8C j4k (Z8C j0r (Z8C j9k Z8W))) trivial Tryz.func201 (by kernel_rfl) (by kernel_rfl) (by decide) (by
 intro vals ext k r h
 obtain ⟨c,a_c,t_c,vals,rfl,h1⟩:=Z8T h
 obtain ⟨rfl,h2⟩:=Z90 h1
 obtain ⟨rfl,h3⟩:=Z90 h2
 exact (jpy c a_c t_c k).trans h3)
noncomputable def jpe:Code:=(Tryz.f285.body).getD .skip
noncomputable def jh0:Env Unit:=⟨tys,[],0⟩
noncomputable def jd1 (c:qB×Int×Bool×Bool×Int×Int×qB) (t1:qB) (k0:Bool->Res):Res:=
 k0 (sEq c.1 t1)
noncomputable def jhc:Sig Unit:=⟨[.look y7 true,.rptr .str],[false],λvals ext k=>av vals y7 λc vals=>av vals .str λt1 vals=>nl vals<|nl ext<|jd1 c t1 (λ(r0:Bool)=>k [⟨.bool,false,r0,[]⟩] [] [])⟩
theorem joQ (c:qB×Int×Bool×Bool×Int×Int×qB) (a_c:Bool) (t_c:List Tag) (t1:qB) (a_t1:Bool) (t_t1:List Tag) (k:qK):Z6X jh0 [] .o false Tryz.f285 [.look y7 true,.rptr .str] [false] [⟨y7,a_c,c,t_c⟩,⟨.str,a_t1,t1,t_t1⟩] [] k=jd1 c t1 (λ(r0:Bool)=>k [⟨.bool,false,r0,[]⟩] [] []):=by kernel_rfl
theorem jgS:Z1k Tryz.prog 285 jhc:=Z8N (Γ:=jh0) (X:=[]) (ht:= .o) (fz:=false) (c:=jpe) follows j01 Z8W trivial Tryz.func285 (by kernel_rfl) (by kernel_rfl) (by decide) (by
 intro vals ext k r h
 obtain ⟨c,a_c,t_c,vals,rfl,h1⟩:=Z8T h
 obtain ⟨t1,a_t1,t_t1,vals,rfl,h2⟩:=Z8T h1
 obtain ⟨rfl,h3⟩:=Z90 h2
 obtain ⟨rfl,h4⟩:=Z90 h3
 exact (joQ c a_c t_c t1 a_t1 t_t1 k).trans h4)
noncomputable def j2n:Code:=(Tryz.f284.body).getD .skip
noncomputable def j6u:Env Unit:=⟨tys,[(285,jhc)],0⟩
noncomputable def j1P (s:List qC) (f:qB) (t7:Int) (t8:Int) (rec:Int->Res) (k0:Unit->Res) (k1:Int->Res):Res:=
 bif decide (t8<t7) then
  bif inb t8 (List.length s) then
   jd1 (nth (eS,0,false,false,0,0,eS) s t8) f λ(r:Bool)=>
    bif r then
     k1 t8
    else
     rec (Z8g (t8+1))
  else none
 else
  k0 ()
noncomputable def j2Z (s:List qC) (f:qB) (t7:Int):Int->(Int->Res)->((Unit->Res)×(Int->Res))->Res:=λv rec q=>j1P s f t7 v (λt8=>rec (t8)) q.1 q.2
noncomputable def j5v (s:List qC) (f:qB) (t7:Int) (n:Nat) (t8:Int) (k0:Unit->Res) (k1:Int->Res):Res:=Z10 (j2Z s f t7) n (t8) (k0,k1)
noncomputable def j3k:Z1l Unit:=λσ k=>rdN σ 19<|rdV σ 0 y8 false [.S] λs=>rdC σ 1 285 [.str] .str [] λf=>rdV σ 7 (.int .i64) false [] λt7=>rdV σ 8 (.int .i64) false [] λt8=>j5v s f t7 Z0Y t8 (λ(_:Unit)=>k (.exit 0) (mkS 19 19 [] [])) (λ(t4:Int)=>k .ret (mkS 19 19 [(4,.val ⟨(.int .i64),false,t4,[]⟩)] []))
theorem jdP (s:List qC) (f:qB) (t7:Int) (n:Nat) (v:Int) (k:Z6G Unit):Z3X (Z0R j6u [] .o (pl (pl (pr (pl (pr j2n)))))) (λσ=>σ.forget [0,1,7,8] []) (Z8a ([],[]) [(0,[],[])] ([4],[])) n (mkS 19 19 [(0,.val ⟨y8,false,s,[.S]⟩),(1,.sclos 285 [.str] ⟨.str,false,f,[]⟩),(7,.val ⟨(.int .i64),false,t7,[]⟩),(8,.val ⟨(.int .i64),false,v,[]⟩)] []) k=Z10 (j2Z s f t7) n v ((λ(k:Z6G Unit)=>(((λ(_:Unit)=>k (.exit 0) (mkS 19 19 [] [])),(λ(t4:Int)=>k .ret (mkS 19 19 [(4,.val ⟨(.int .i64),false,t4,[]⟩)] []))):(Unit->Res)×(Int->Res))) k):=Z80 (λv:Int=>(mkS 19 19 [(0,.val ⟨y8,false,s,[.S]⟩),(1,.sclos 285 [.str] ⟨.str,false,f,[]⟩),(7,.val ⟨(.int .i64),false,t7,[]⟩),(8,.val ⟨(.int .i64),false,v,[]⟩)] [])) (j2Z s f t7) (λ(k:Z6G Unit)=>(((λ(_:Unit)=>k (.exit 0) (mkS 19 19 [] [])),(λ(t4:Int)=>k .ret (mkS 19 19 [(4,.val ⟨(.int .i64),false,t4,[]⟩)] []))):(Unit->Res)×(Int->Res))) (λv rec k=>by kernel_rfl) n v k
theorem je2 {W0:Base} {M:Nat->Prop} (hnp:W0.np<=0):Z1W Tryz.prog W0 M (pl (pr (pl (pr j2n)))) j3k:=show Z1W Tryz.prog W0 M (Code.loop (pl (pl (pr (pl (pr j2n)))))) j3k from Z8X (Z6Q follows j01 (Z7K (Z8C jgS Z8W)) hnp [] (pl (pl (pr (pl (pr j2n))))) .o trivial) (ks:=[0,1,7,8]) (bs:=[]) (fX:=(Z8a ([],[]) [(0,[],[])] ([4],[]))) (Z8U _ _ _) Z0Y (by
 intro σ k r h
 obtain ⟨hn,h1⟩:=Z8G h
 obtain ⟨s,hs0,h2⟩:=Z8J h1
 obtain ⟨f,hs1,h3⟩:=Z8E h2
 obtain ⟨t7,hs7,h4⟩:=Z8J h3
 obtain ⟨t8,hs8,h5⟩:=Z8J h4
 refine ⟨_,?_,(jdP s f t7 Z0Y (t8) k).trans h5⟩
 exact Z9e hn ⟨hs0,hs1,hs7,hs8,trivial⟩ trivial)
noncomputable def j4K (s:List qC) (f:qB) (k0:Int->Res):Res:=
 j5v s f (nI (List.length s)) Z0Y 0
  (λ(_:Unit)=>
   k0 (-1))
  (λ(t:Int)=>
   k0 t)
noncomputable def jaB:Sig Unit:=⟨[.look y8 false,.rclos 285 [.str]],[false],λvals ext k=>av vals y8 λs vals=>av vals .str λf vals=>nl vals<|nl ext<|j4K s f (λ(r0:Int)=>k [⟨(.int .i64),false,r0,[]⟩] [] [])⟩
theorem jfk (s:List qC) (a_s:Bool) (t_s:List Tag) (f:qB) (a_f:Bool) (t_f:List Tag) (k:qK):Z6X j6u [j3k] (.t .o (.t (.t .o (.t (.x 0) .o)) .o)) false Tryz.f284 [.look y8 false,.rclos 285 [.str]] [false] [⟨y8,a_s,s,t_s⟩,⟨.str,a_f,f,t_f⟩] [] k=j4K s f (λ(r0:Int)=>k [⟨(.int .i64),false,r0,[]⟩] [] []):=by kernel_rfl
theorem jfn:Z1k Tryz.prog 284 jaB:=Z8N (Γ:=j6u) (X:=[j3k]) (ht:=(.t .o (.t (.t .o (.t (.x 0) .o)) .o))) (fz:=false) (c:=j2n) follows j01 (Z8C jgS Z8W) (Z1A.mk trivial ((Z1A.mk ((Z1A.mk trivial ((Z1A.mk (Z1A.x_mk (λW0 M hnp=>je2 (W0:=W0) (M:=M) hnp)) trivial)))) trivial))) Tryz.func284 (by kernel_rfl) (by kernel_rfl) (by decide) (by
 intro vals ext k r h
 obtain ⟨s,a_s,t_s,vals,rfl,h1⟩:=Z8T h
 obtain ⟨f,a_f,t_f,vals,rfl,h2⟩:=Z8T h1
 obtain ⟨rfl,h3⟩:=Z90 h2
 obtain ⟨rfl,h4⟩:=Z90 h3
 exact (jfk s a_s t_s f a_f t_f k).trans h4)
noncomputable def jpU:Code:=(Tryz.f246.body).getD .skip
noncomputable def jhI:Env Unit:=⟨tys,[(284,jaB)],0⟩
noncomputable def j9Z (t:qB×qE×qL) (name:qB) (k0:Int->Res):Res:=
 j4K t.2.1 name λ(r:Int)=>
  k0 r
noncomputable def jib:Sig Unit:=⟨[.look y27 true,.look .str false],[false],λvals ext k=>av vals y27 λt vals=>av vals .str λname vals=>nl vals<|nl ext<|j9Z t name (λ(r0:Int)=>k [⟨(.int .i64),false,r0,[]⟩] [] [])⟩
theorem jpx (t:qB×qE×qL) (a_t:Bool) (t_t:List Tag) (name:qB) (a_name:Bool) (t_name:List Tag) (k:qK):Z6X jhI [] .o false Tryz.f246 [.look y27 true,.look .str false] [false] [⟨y27,a_t,t,t_t⟩,⟨.str,a_name,name,t_name⟩] [] k=j9Z t name (λ(r0:Int)=>k [⟨(.int .i64),false,r0,[]⟩] [] []):=by kernel_rfl
theorem jdJ:Z1k Tryz.prog 246 jib:=Z8N (Γ:=jhI) (X:=[]) (ht:= .o) (fz:=false) (c:=jpU) follows j01 (Z8C jfn Z8W) trivial Tryz.func246 (by kernel_rfl) (by kernel_rfl) (by decide) (by
 intro vals ext k r h
 obtain ⟨t,a_t,t_t,vals,rfl,h1⟩:=Z8T h
 obtain ⟨name,a_name,t_name,vals,rfl,h2⟩:=Z8T h1
 obtain ⟨rfl,h3⟩:=Z90 h2
 obtain ⟨rfl,h4⟩:=Z90 h3
 exact (jpx t a_t t_t name a_name t_name k).trans h4)
noncomputable def j29:Code:=(Tryz.f199.body).getD .skip
noncomputable def j9T:Env Unit:=⟨tys,[(152,j8m),(174,j1B),(201,jbW),(246,jib)],0⟩
noncomputable def j4o (t10:List qC) (t11:Int) (t:qB×qE×qL) (t12:Int) (rec:Int->Res) (k0:Unit->Res) (k1:Unit->Res):Res:=
 bif decide (t12<t11) then
  bif inb t12 (List.length t10) then
   j7B (nth (eS,0,false,false,0,0,eS) t10 t12) λ(r:Bool)=>
    bif !r then
     k1 ()
    else
     j9Z t (nth (eS,0,false,false,0,0,eS) t10 t12).1 λ(r1:Int)=>
      bif (r1 != t12) then
       k1 ()
      else
       rec (Z8g (t12+1))
  else none
 else
  k0 ()
noncomputable def j6G (t10:List qC) (t11:Int) (t:qB×qE×qL):Int->(Int->Res)->((Unit->Res)×(Unit->Res))->Res:=λv rec q=>j4o t10 t11 t v (λt12=>rec (t12)) q.1 q.2
noncomputable def j8S (t10:List qC) (t11:Int) (t:qB×qE×qL) (n:Nat) (t12:Int) (k0:Unit->Res) (k1:Unit->Res):Res:=Z10 (j6G t10 t11 t) n (t12) (k0,k1)
noncomputable def j3I:Z1l Unit:=λσ k=>rdN σ 68<|rdT σ 1 (.ptr ⟨true,1,[]⟩)<|rdV σ 10 y8 false [.S] λt10=>rdV σ 11 (.int .i64) false [] λt11=>rdV σ 12 (.int .i64) false [] λt12=>rdB σ 1 y27 [.S,.S] λa t=>j8S t10 t11 t Z0Y t12 (λ(_:Unit)=>k (.exit 0) (mkS 68 68 [(1,.ptr ⟨true,1,[]⟩)] [(1,⟨y27,a,t,[.S,.S]⟩)])) (λ(_:Unit)=>k .ret (mkS 68 68 [(2,.val ⟨.bool,false,false,[]⟩)] []))
theorem jjW (t10:List qC) (t11:Int) (a:Bool) (t:qB×qE×qL) (n:Nat) (v:Int) (k:Z6G Unit):Z3X (Z0R j9T [] .o (pl (pl (pr (pl (pr j29)))))) (λσ=>σ.forget [1,10,11,12] [1]) (Z8a ([],[]) [(0,[1],[1])] ([2],[])) n (mkS 68 68 [(1,.ptr ⟨true,1,[]⟩),(10,.val ⟨y8,false,t10,[.S]⟩),(11,.val ⟨(.int .i64),false,t11,[]⟩),(12,.val ⟨(.int .i64),false,v,[]⟩)] [(1,⟨y27,a,t,[.S,.S]⟩)]) k=Z10 (j6G t10 t11 t) n v ((λ(k:Z6G Unit)=>(((λ(_:Unit)=>k (.exit 0) (mkS 68 68 [(1,.ptr ⟨true,1,[]⟩)] [(1,⟨y27,a,t,[.S,.S]⟩)])),(λ(_:Unit)=>k .ret (mkS 68 68 [(2,.val ⟨.bool,false,false,[]⟩)] []))):(Unit->Res)×(Unit->Res))) k):=Z80 (λv:Int=>(mkS 68 68 [(1,.ptr ⟨true,1,[]⟩),(10,.val ⟨y8,false,t10,[.S]⟩),(11,.val ⟨(.int .i64),false,t11,[]⟩),(12,.val ⟨(.int .i64),false,v,[]⟩)] [(1,⟨y27,a,t,[.S,.S]⟩)])) (j6G t10 t11 t) (λ(k:Z6G Unit)=>(((λ(_:Unit)=>k (.exit 0) (mkS 68 68 [(1,.ptr ⟨true,1,[]⟩)] [(1,⟨y27,a,t,[.S,.S]⟩)])),(λ(_:Unit)=>k .ret (mkS 68 68 [(2,.val ⟨.bool,false,false,[]⟩)] []))):(Unit->Res)×(Unit->Res))) (λv rec k=>by kernel_rfl) n v k
theorem jkJ {W0:Base} {M:Nat->Prop} (hnp:W0.np<=0):Z1W Tryz.prog W0 M (pl (pr (pl (pr j29)))) j3I:=show Z1W Tryz.prog W0 M (Code.loop (pl (pl (pr (pl (pr j29)))))) j3I from Z8X (Z6Q follows j01 (Z7K (Z8C j4k (Z8C j0r (Z8C j73 (Z8C jdJ Z8W))))) hnp [] (pl (pl (pr (pl (pr j29))))) .o trivial) (ks:=[1,10,11,12]) (bs:=[1]) (fX:=(Z8a ([],[]) [(0,[1],[1])] ([2],[]))) (Z8U _ _ _) Z0Y (by
 intro σ k r h
 obtain ⟨hn,h1⟩:=Z8G h
 obtain ⟨hs1,h2⟩:=Z8H h1
 obtain ⟨t10,hs10,h3⟩:=Z8J h2
 obtain ⟨t11,hs11,h4⟩:=Z8J h3
 obtain ⟨t12,hs12,h5⟩:=Z8J h4
 obtain ⟨a,t,hb1,h6⟩:=Z8D h5
 refine ⟨_,?_,(jjW t10 t11 a t Z0Y (t12) k).trans h6⟩
 exact Z9e hn ⟨hs1,hs10,hs11,hs12,trivial⟩ ⟨hb1,trivial⟩)
noncomputable def j4p (t30:qL) (t31:Int) (t:qB×qE×qL) (last:Int) (t32:Int) (rec:Int->Int->Res) (k0:Unit->Res) (k1:Unit->Res):Res:=
 bif decide (t32<t31) then
  bif inb t32 (List.length t30) then
   j9Z t (nth eS t30 t32) λ(r:Int)=>
    bif decide (r<=last) then
     k1 ()
    else
     bif inb r (List.length t.2.1) then
      bif !(nth (eS,0,false,false,0,0,eS) t.2.1 r).2.2.1 then
       k1 ()
      else
       rec r (Z8g (t32+1))
     else none
  else none
 else
  k0 ()
noncomputable def j6H (t30:qL) (t31:Int) (t:qB×qE×qL):(Int×Int)->(Int×Int->Res)->((Unit->Res)×(Unit->Res))->Res:=λv rec q=>j4p t30 t31 t v.1 v.2 (λlast t32=>rec (last,t32)) q.1 q.2
noncomputable def j8T (t30:qL) (t31:Int) (t:qB×qE×qL) (n:Nat) (last:Int) (t32:Int) (k0:Unit->Res) (k1:Unit->Res):Res:=Z10 (j6H t30 t31 t) n (last,t32) (k0,k1)
noncomputable def j7W:Z1l Unit:=λσ k=>rdN σ 68<|rdT σ 1 (.ptr ⟨true,1,[]⟩)<|rdV σ 5 (.int .i64) false [] λlast=>rdV σ 30 y9 false [.S] λt30=>rdV σ 31 (.int .i64) false [] λt31=>rdV σ 32 (.int .i64) false [] λt32=>rdB σ 1 y27 [.S,.S] λa t=>j8T t30 t31 t Z0Y last t32 (λ(_:Unit)=>k (.exit 2) (mkS 68 68 [(1,.ptr ⟨true,1,[]⟩)] [(1,⟨y27,a,t,[.S,.S]⟩)])) (λ(_:Unit)=>k .ret (mkS 68 68 [(2,.val ⟨.bool,false,false,[]⟩)] []))
theorem jjX (t30:qL) (t31:Int) (a:Bool) (t:qB×qE×qL) (n:Nat) (v:Int×Int) (k:Z6G Unit):Z3X (Z0R j9T [j3I] .o (pl (pl (pr (pl (pr (pr (pr j29)))))))) (λσ=>σ.forget [1,5,30,31,32] [1]) (Z8a ([],[]) [(2,[1],[1])] ([2],[])) n (mkS 68 68 [(1,.ptr ⟨true,1,[]⟩),(5,.val ⟨(.int .i64),false,v.1,[]⟩),(30,.val ⟨y9,false,t30,[.S]⟩),(31,.val ⟨(.int .i64),false,t31,[]⟩),(32,.val ⟨(.int .i64),false,v.2,[]⟩)] [(1,⟨y27,a,t,[.S,.S]⟩)]) k=Z10 (j6H t30 t31 t) n v ((λ(k:Z6G Unit)=>(((λ(_:Unit)=>k (.exit 2) (mkS 68 68 [(1,.ptr ⟨true,1,[]⟩)] [(1,⟨y27,a,t,[.S,.S]⟩)])),(λ(_:Unit)=>k .ret (mkS 68 68 [(2,.val ⟨.bool,false,false,[]⟩)] []))):(Unit->Res)×(Unit->Res))) k):=Z80 (λv:Int×Int=>(mkS 68 68 [(1,.ptr ⟨true,1,[]⟩),(5,.val ⟨(.int .i64),false,v.1,[]⟩),(30,.val ⟨y9,false,t30,[.S]⟩),(31,.val ⟨(.int .i64),false,t31,[]⟩),(32,.val ⟨(.int .i64),false,v.2,[]⟩)] [(1,⟨y27,a,t,[.S,.S]⟩)])) (j6H t30 t31 t) (λ(k:Z6G Unit)=>(((λ(_:Unit)=>k (.exit 2) (mkS 68 68 [(1,.ptr ⟨true,1,[]⟩)] [(1,⟨y27,a,t,[.S,.S]⟩)])),(λ(_:Unit)=>k .ret (mkS 68 68 [(2,.val ⟨.bool,false,false,[]⟩)] []))):(Unit->Res)×(Unit->Res))) (λv rec k=>by kernel_rfl) n v k
theorem jkK {W0:Base} {M:Nat->Prop} (hnp:W0.np<=0):Z1W Tryz.prog W0 M (pl (pr (pl (pr (pr (pr j29)))))) j7W:=show Z1W Tryz.prog W0 M (Code.loop (pl (pl (pr (pl (pr (pr (pr j29)))))))) j7W from Z8X (Z6Q follows j01 (Z7K (Z8C j4k (Z8C j0r (Z8C j73 (Z8C jdJ Z8W))))) hnp [j3I] (pl (pl (pr (pl (pr (pr (pr j29))))))) .o trivial) (ks:=[1,5,30,31,32]) (bs:=[1]) (fX:=(Z8a ([],[]) [(2,[1],[1])] ([2],[]))) (Z8U _ _ _) Z0Y (by
 intro σ k r h
 obtain ⟨hn,h1⟩:=Z8G h
 obtain ⟨hs1,h2⟩:=Z8H h1
 obtain ⟨last,hs5,h3⟩:=Z8J h2
 obtain ⟨t30,hs30,h4⟩:=Z8J h3
 obtain ⟨t31,hs31,h5⟩:=Z8J h4
 obtain ⟨t32,hs32,h6⟩:=Z8J h5
 obtain ⟨a,t,hb1,h7⟩:=Z8D h6
 refine ⟨_,?_,(jjX t30 t31 a t Z0Y (last,t32) k).trans h7⟩
 exact Z9e hn ⟨hs1,hs5,hs30,hs31,hs32,trivial⟩ ⟨hb1,trivial⟩)
noncomputable def j9t (t:qB×qE×qL) (k0:Bool->Res):Res:=
 j8S t.2.1 (nI (List.length t.2.1)) t Z0Y 0
  (λ(_:Unit)=>
   j8T t.2.2 (nI (List.length t.2.2)) t Z0Y (-1) 0
    (λ(_:Unit)=>
     j2p t.1 λ(r:Bool)=>
      bif r then
       j0K (nI (List.length t.2.1)) 1 8 λ(r1:Bool)=>
        bif r1 then
         k0 (decide ((nI (List.length t.2.2))>0))
        else
         k0 false
      else
       k0 false)
    (λ(_:Unit)=>
     k0 false))
  (λ(_:Unit)=>
   k0 false)
noncomputable def jfY:Sig Unit:=⟨[.look y27 true],[false],λvals ext k=>av vals y27 λt vals=>nl vals<|nl ext<|j9t t (λ(r0:Bool)=>k [⟨.bool,false,r0,[]⟩] [] [])⟩
theorem jn8 (t:qB×qE×qL) (a_t:Bool) (t_t:List Tag) (k:qK):Z6X j9T [j3I,j7W] (.t .o (.t (.t .o (.t (.x 0) .o)) (.t .o (.t (.t .o (.t (.x 1) .o)) .o)))) false Tryz.f199 [.look y27 true] [false] [⟨y27,a_t,t,t_t⟩] [] k=j9t t (λ(r0:Bool)=>k [⟨.bool,false,r0,[]⟩] [] []):=by kernel_rfl
theorem jnC:Z1k Tryz.prog 199 jfY:=Z8N (Γ:=j9T) (X:=[j3I,j7W]) (ht:=(.t .o (.t (.t .o (.t (.x 0) .o)) (.t .o (.t (.t .o (.t (.x 1) .o)) .o))))) (fz:=false) (c:=j29) follows j01 (Z8C j4k (Z8C j0r (Z8C j73 (Z8C jdJ Z8W)))) (Z1A.mk trivial ((Z1A.mk ((Z1A.mk trivial ((Z1A.mk (Z1A.x_mk (λW0 M hnp=>jkJ (W0:=W0) (M:=M) hnp)) trivial)))) ((Z1A.mk trivial ((Z1A.mk ((Z1A.mk trivial ((Z1A.mk (Z1A.x_mk (λW0 M hnp=>jkK (W0:=W0) (M:=M) hnp)) trivial)))) trivial))))))) Tryz.func199 (by kernel_rfl) (by kernel_rfl) (by decide) (by
 intro vals ext k r h
 obtain ⟨t,a_t,t_t,vals,rfl,h1⟩:=Z8T h
 obtain ⟨rfl,h2⟩:=Z90 h1
 obtain ⟨rfl,h3⟩:=Z90 h2
 exact (jn8 t a_t t_t k).trans h3)
noncomputable def jmb:Code:=(Tryz.f153.body).getD .skip
noncomputable def jeC:Env Unit:=⟨tys,[(122,jbl),(202,jdc)],0⟩
noncomputable def j0Y (a:qG) (b:qG) (k0:Bool->Res):Res:=
 bif (a.1==b.1) then
  bif sEq a.2.1 b.2.1 then
   j2v a.2.2.1 b.2.2.1 λ(r:Bool)=>
    bif r then
     j3z a.2.2.2.1 b.2.2.2.1 λ(r1:Bool)=>
      bif r1 then
       bif sEq a.2.2.2.2.1 b.2.2.2.2.1 then
        k0 (sEq a.2.2.2.2.2 b.2.2.2.2.2)
       else
        k0 false
      else
       k0 false
    else
     k0 false
  else
   k0 false
 else
  k0 false
noncomputable def j92:Sig Unit:=⟨[.look y14 true,.look y14 true],[false],λvals ext k=>av vals y14 λa vals=>av vals y14 λb vals=>nl vals<|nl ext<|j0Y a b (λ(r0:Bool)=>k [⟨.bool,false,r0,[]⟩] [] [])⟩
theorem jlC (a:qG) (a_a:Bool) (t_a:List Tag) (b:qG) (a_b:Bool) (t_b:List Tag) (k:qK):Z6X jeC [] .o false Tryz.f153 [.look y14 true,.look y14 true] [false] [⟨y14,a_a,a,t_a⟩,⟨y14,a_b,b,t_b⟩] [] k=j0Y a b (λ(r0:Bool)=>k [⟨.bool,false,r0,[]⟩] [] []):=by kernel_rfl
theorem j8J:Z1k Tryz.prog 153 j92:=Z8N (Γ:=jeC) (X:=[]) (ht:= .o) (fz:=false) (c:=jmb) follows j01 (Z8C jfy (Z8C jhA Z8W)) trivial Tryz.func153 (by kernel_rfl) (by kernel_rfl) (by decide) (by
 intro vals ext k r h
 obtain ⟨a,a_a,t_a,vals,rfl,h1⟩:=Z8T h
 obtain ⟨b,a_b,t_b,vals,rfl,h2⟩:=Z8T h1
 obtain ⟨rfl,h3⟩:=Z90 h2
 obtain ⟨rfl,h4⟩:=Z90 h3
 exact (jlC a a_a t_a b a_b t_b k).trans h4)
noncomputable def jpW:Code:=(Tryz.f151.body).getD .skip
noncomputable def jhK:Env Unit:=⟨tys,[(152,j8m),(153,j92),(199,jfY),(200,jeS),(201,jbW)],0⟩
noncomputable def ja0 (d:qG) (k0:Bool->Res):Res:=
 j2p d.2.1 λ(r:Bool)=>
  bif !r then
   k0 false
  else
   bif (d.1==1) then
    j8d d λ(r1:qB×qE×qL)=>
     j9t r1 λ(r2:Bool)=>
      bif r2 then
       bif sEq d.2.2.2.2.1 eS then
        k0 (sEq d.2.2.2.2.2 eS)
       else
        k0 false
      else
       k0 false
   else
    bif (d.1==2) then
     j0Y d (d.1,d.2.1,[],[],eS,eS) λ(r3:Bool)=>
      k0 r3
    else
     bif (d.1==3) then
      j0Y d (d.1,d.2.1,d.2.2.1,[],eS,eS) λ(r4:Bool)=>
       bif r4 then
        bif ((nI (List.length d.2.2.1))==1) then
         bif inb 0 (List.length d.2.2.1) then
          j7B (nth (eS,0,false,false,0,0,eS) d.2.2.1 0) λ(r5:Bool)=>
           bif r5 then
            bif inb 0 (List.length d.2.2.1) then
             bif (nth (eS,0,false,false,0,0,eS) d.2.2.1 0).2.2.2.1 then
              k0 true
             else
              bif inb 0 (List.length d.2.2.1) then
               k0 (!(nth (eS,0,false,false,0,0,eS) d.2.2.1 0).2.2.1)
              else none
            else none
           else
            k0 false
         else none
        else
         k0 false
       else
        k0 false
     else
      bif (d.1==4) then
       j0Y d (d.1,d.2.1,[],[],d.2.2.2.2.1,eS) λ(r6:Bool)=>
        bif r6 then
         j2p d.2.2.2.2.1 λ(r7:Bool)=>
          k0 r7
        else
         k0 false
      else
       bif (d.1==5) then
        j0Y d (d.1,d.2.1,[],[],d.2.2.2.2.1,d.2.2.2.2.2) λ(r8:Bool)=>
         bif r8 then
          j2p d.2.2.2.2.1 λ(r9:Bool)=>
           bif r9 then
            j2p d.2.2.2.2.2 λ(r10:Bool)=>
             k0 r10
           else
            k0 false
         else
          k0 false
       else
        k0 false
noncomputable def je7:Sig Unit:=⟨[.look y14 true],[false],λvals ext k=>av vals y14 λd vals=>nl vals<|nl ext<|ja0 d (λ(r0:Bool)=>k [⟨.bool,false,r0,[]⟩] [] [])⟩
theorem jpz (d:qG) (a_d:Bool) (t_d:List Tag) (k:qK):Z6X jhK [] .o false Tryz.f151 [.look y14 true] [false] [⟨y14,a_d,d,t_d⟩] [] k=ja0 d (λ(r0:Bool)=>k [⟨.bool,false,r0,[]⟩] [] []):=by kernel_rfl
theorem jbo:Z1k Tryz.prog 151 je7:=Z8N (Γ:=jhK) (X:=[]) (ht:= .o) (fz:=false) (c:=jpW) follows j01 (Z8C j4k (Z8C j8J (Z8C jnC (Z8C jlY (Z8C j73 Z8W))))) trivial Tryz.func151 (by kernel_rfl) (by kernel_rfl) (by decide) (by
 intro vals ext k r h
 obtain ⟨d,a_d,t_d,vals,rfl,h1⟩:=Z8T h
 obtain ⟨rfl,h2⟩:=Z90 h1
 obtain ⟨rfl,h3⟩:=Z90 h2
 exact (jpz d a_d t_d k).trans h3)
end Go.PI.G
