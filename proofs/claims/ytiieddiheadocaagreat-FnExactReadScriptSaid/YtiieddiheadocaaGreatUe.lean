/-
  Program's code interpreted over typed values; printed texts; plain laws. No conditions.
-/
import Derived.Test.YtiieddiheadocaaGreatUa
import Derived.Test.YtiieddiheadocaaGreatUc
import Derived.Test.YtiieddiheadocaaGreatUb
import Derived.Test.YtiieddiheadocaaGreatUd
set_option linter.unusedVariables false
set_option maxRecDepth 100000
namespace Go.PI.G
open Go Go.PI Go.Proofs
open Go.Code (pl pr)
noncomputable def j6v:Code:=(Tryz.f177.body).getD .skip
noncomputable def jcr:Env Unit:=⟨tys,[],0⟩
noncomputable def j31 (s:qB) (b:Int) (out:qL) (from_:Int) (i:Int) (rec:qL->Int->Int->Res) (k0:qL->Int->Res):Res:=
 bif decide (i<(nI (ByteArray.size s))) then
  bif inb i (ByteArray.size s) then
   bif ((bt s i)==b) then
    bif Z6R from_ i (ByteArray.size s) then
     bif lim ((List.length out)+1) then
      rec (out++[Z9k s from_ i]) (Z8g (i+1)) (Z8g (i+1))
     else none
    else none
   else
    rec out from_ (Z8g (i+1))
  else none
 else
  k0 out from_
noncomputable def j32 (s:qB) (b:Int):(qL×Int×Int)->(qL×Int×Int->Res)->((qL->Int->Res))->Res:=λv rec q=>j31 s b v.1 v.2.1 v.2.2 (λout from_ i=>rec (out,from_,i)) q
noncomputable def jbQ (s:qB) (b:Int) (n:Nat) (out:qL) (from_:Int) (i:Int) (k0:qL->Int->Res):Res:=Z10 (j32 s b) n (out,from_,i) (k0)
noncomputable def j7E:Z1l Unit:=λσ k=>rdN σ 35<|rdV σ 0 .str false [] λs=>rdV σ 1 (.int .u8) false [] λb=>rdV σ 5 y9 false [.O] λout=>rdV σ 6 (.int .i64) false [] λfrom_=>rdV σ 7 (.int .i64) false [] λi=>jbQ s b Z0Y out from_ i (λ(out1:qL) (from_1:Int)=>k (.exit 0) (mkS 35 35 [(0,.val ⟨.str,false,s,[]⟩),(5,.val ⟨y9,false,out1,[.O]⟩),(6,.val ⟨(.int .i64),false,from_1,[]⟩)] []))
theorem jk7 (s:qB) (b:Int) (n:Nat) (v:qL×Int×Int) (k:Z6G Unit):Z3X (Z0R jcr [] .o (pl (pl (pr (pl (pr (pr (pr j6v)))))))) (λσ=>σ.forget [0,1,5,6,7] []) (Z8a ([],[]) [(0,[0,5,6],[])] ([],[])) n (mkS 35 35 [(0,.val ⟨.str,false,s,[]⟩),(1,.val ⟨(.int .u8),false,b,[]⟩),(5,.val ⟨y9,false,v.1,[.O]⟩),(6,.val ⟨(.int .i64),false,v.2.1,[]⟩),(7,.val ⟨(.int .i64),false,v.2.2,[]⟩)] []) k=Z10 (j32 s b) n v ((λ(k:Z6G Unit)=>(((λ(out1:qL) (from_1:Int)=>k (.exit 0) (mkS 35 35 [(0,.val ⟨.str,false,s,[]⟩),(5,.val ⟨y9,false,out1,[.O]⟩),(6,.val ⟨(.int .i64),false,from_1,[]⟩)] []))):(qL->Int->Res))) k):=Z80 (λv:qL×Int×Int=>(mkS 35 35 [(0,.val ⟨.str,false,s,[]⟩),(1,.val ⟨(.int .u8),false,b,[]⟩),(5,.val ⟨y9,false,v.1,[.O]⟩),(6,.val ⟨(.int .i64),false,v.2.1,[]⟩),(7,.val ⟨(.int .i64),false,v.2.2,[]⟩)] [])) (j32 s b) (λ(k:Z6G Unit)=>(((λ(out1:qL) (from_1:Int)=>k (.exit 0) (mkS 35 35 [(0,.val ⟨.str,false,s,[]⟩),(5,.val ⟨y9,false,out1,[.O]⟩),(6,.val ⟨(.int .i64),false,from_1,[]⟩)] []))):(qL->Int->Res))) (λv rec k=>by kernel_rfl) n v k
theorem jkz {W0:Base} {M:Nat->Prop} (hnp:W0.np<=0):Z1W Tryz.prog W0 M (pl (pr (pl (pr (pr (pr j6v)))))) j7E:=show Z1W Tryz.prog W0 M (Code.loop (pl (pl (pr (pl (pr (pr (pr j6v)))))))) j7E from Z8X (Z6Q follows j00 (Z7K Z8W) hnp [] (pl (pl (pr (pl (pr (pr (pr j6v))))))) .o trivial) (ks:=[0,1,5,6,7]) (bs:=[]) (fX:=(Z8a ([],[]) [(0,[0,5,6],[])] ([],[]))) (Z8U _ _ _) Z0Y (by
 intro σ k r h
 obtain ⟨hn,h1⟩:=Z8G h
 obtain ⟨s,hs0,h2⟩:=Z8J h1
 obtain ⟨b,hs1,h3⟩:=Z8J h2
 obtain ⟨out,hs5,h4⟩:=Z8J h3
 obtain ⟨from_,hs6,h5⟩:=Z8J h4
 obtain ⟨i,hs7,h6⟩:=Z8J h5
 refine ⟨_,?_,(jk7 s b Z0Y (out,from_,i) k).trans h6⟩
 exact Z9e hn ⟨hs0,hs1,hs5,hs6,hs7,trivial⟩ trivial)
noncomputable def j6j (s:qB) (b:Int) (k0:qL->Res):Res:=
 jbQ s b Z0Y [] 0 0 λ(out:qL) (from_:Int)=>
  bif Z6R from_ (nI (ByteArray.size s)) (ByteArray.size s) then
   bif lim ((List.length out)+1) then
    k0 (out++[Z9k s from_ (nI (ByteArray.size s))])
   else none
  else none
noncomputable def jcN:Sig Unit:=⟨[.borrow .str false,.borrow (.int .u8) false],[false],λvals ext k=>av vals .str λs vals=>av vals (.int .u8) λb vals=>nl vals<|nl ext<|j6j s b (λ(r0:qL)=>k [⟨y9,false,r0,[.S]⟩] [] [])⟩
theorem jn1 (s:qB) (a_s:Bool) (t_s:List Tag) (b:Int) (a_b:Bool) (t_b:List Tag) (k:qK):Z6X jcr [j7E] (.t .o (.t .o (.t .o (.t (.t .o (.t (.x 0) .o)) .o)))) true Tryz.f177 [.borrow .str false,.borrow (.int .u8) false] [false] [⟨.str,a_s,s,t_s⟩,⟨(.int .u8),a_b,b,t_b⟩] [] k=j6j s b (λ(r0:qL)=>k [⟨y9,false,r0,[.S]⟩] [] []):=by kernel_rfl
theorem jfn:Z1k Tryz.prog 177 jcN:=Z8N (Γ:=jcr) (X:=[j7E]) (ht:=(.t .o (.t .o (.t .o (.t (.t .o (.t (.x 0) .o)) .o))))) (fz:=true) (c:=j6v) follows j00 Z8W (Z1A.mk trivial ((Z1A.mk trivial ((Z1A.mk trivial ((Z1A.mk ((Z1A.mk trivial ((Z1A.mk (Z1A.x_mk (λW0 M hnp=>jkz (W0:=W0) (M:=M) hnp)) trivial)))) trivial))))))) Tryz.func177 (by kernel_rfl) (by kernel_rfl) (by decide) (by
 intro vals ext k r h
 obtain ⟨s,a_s,t_s,vals,rfl,h1⟩:=Z8T h
 obtain ⟨b,a_b,t_b,vals,rfl,h2⟩:=Z8T h1
 obtain ⟨rfl,h3⟩:=Z90 h2
 obtain ⟨rfl,h4⟩:=Z90 h3
 exact (jn1 s a_s t_s b a_b t_b k).trans h4)
noncomputable def jqJ:Code:=(Tryz.f109.body).getD .skip
noncomputable def jiM:Env Unit:=⟨tys,[(177,jcN)],0⟩
noncomputable def j6X (s:qB) (k0:qL->Res):Res:=
 j6j s 32 λ(r:qL)=>
  k0 r
noncomputable def jaj:Sig Unit:=⟨[.borrow .str false],[false],λvals ext k=>av vals .str λs vals=>nl vals<|nl ext<|j6X s (λ(r0:qL)=>k [⟨y9,false,r0,[.S]⟩] [] [])⟩
theorem jqr (s:qB) (a_s:Bool) (t_s:List Tag) (k:qK):Z6X jiM [] .o false Tryz.f109 [.borrow .str false] [false] [⟨.str,a_s,s,t_s⟩] [] k=j6X s (λ(r0:qL)=>k [⟨y9,false,r0,[.S]⟩] [] []):=by kernel_rfl
theorem j0S:Z1k Tryz.prog 109 jaj:=Z8N (Γ:=jiM) (X:=[]) (ht:= .o) (fz:=false) (c:=jqJ) follows j00 (Z8C jfn Z8W) trivial Tryz.func109 (by kernel_rfl) (by kernel_rfl) (by decide) (by
 intro vals ext k r h
 obtain ⟨s,a_s,t_s,vals,rfl,h1⟩:=Z8T h
 obtain ⟨rfl,h2⟩:=Z90 h1
 obtain ⟨rfl,h3⟩:=Z90 h2
 exact (jqr s a_s t_s k).trans h3)
noncomputable def ja4:Code:=(Tryz.f220.body).getD .skip
noncomputable def jeP:Env Unit:=⟨tys,[],0⟩
noncomputable def j6Y (t5:qL) (t6:Int) (t7:Int) (rec:Int->Res) (k0:Unit->Res) (k1:Int->Res):Res:=
 bif decide (t7<t6) then
  bif inb t7 (List.length t5) then
   bif sEq (nth eS t5 t7) j1I then
    k1 t7
   else
    rec (Z8g (t7+1))
  else none
 else
  k0 ()
noncomputable def j9R (t5:qL) (t6:Int):Int->(Int->Res)->((Unit->Res)×(Int->Res))->Res:=λv rec q=>j6Y t5 t6 v (λt7=>rec (t7)) q.1 q.2
noncomputable def jel (t5:qL) (t6:Int) (n:Nat) (t7:Int) (k0:Unit->Res) (k1:Int->Res):Res:=Z10 (j9R t5 t6) n (t7) (k0,k1)
noncomputable def jaX:Z1l Unit:=λσ k=>rdN σ 18<|rdV σ 0 y9 false [.S] λw=>rdV σ 5 y9 false [.S] λt5=>rdV σ 6 (.int .i64) false [] λt6=>rdV σ 7 (.int .i64) false [] λt7=>jel t5 t6 Z0Y t7 (λ(_:Unit)=>k (.exit 0) (mkS 18 18 [(0,.val ⟨y9,false,w,[.S]⟩)] [])) (λ(t2:Int)=>k .ret (mkS 18 18 [(2,.val ⟨(.int .i64),false,t2,[]⟩)] []))
theorem joN (w:qL) (t5:qL) (t6:Int) (n:Nat) (v:Int) (k:Z6G Unit):Z3X (Z0R jeP [] .o (pl (pl (pr (pl (pr ja4)))))) (λσ=>σ.forget [0,5,6,7] []) (Z8a ([],[]) [(0,[0],[])] ([2],[])) n (mkS 18 18 [(0,.val ⟨y9,false,w,[.S]⟩),(5,.val ⟨y9,false,t5,[.S]⟩),(6,.val ⟨(.int .i64),false,t6,[]⟩),(7,.val ⟨(.int .i64),false,v,[]⟩)] []) k=Z10 (j9R t5 t6) n v ((λ(k:Z6G Unit)=>(((λ(_:Unit)=>k (.exit 0) (mkS 18 18 [(0,.val ⟨y9,false,w,[.S]⟩)] [])),(λ(t2:Int)=>k .ret (mkS 18 18 [(2,.val ⟨(.int .i64),false,t2,[]⟩)] []))):(Unit->Res)×(Int->Res))) k):=Z80 (λv:Int=>(mkS 18 18 [(0,.val ⟨y9,false,w,[.S]⟩),(5,.val ⟨y9,false,t5,[.S]⟩),(6,.val ⟨(.int .i64),false,t6,[]⟩),(7,.val ⟨(.int .i64),false,v,[]⟩)] [])) (j9R t5 t6) (λ(k:Z6G Unit)=>(((λ(_:Unit)=>k (.exit 0) (mkS 18 18 [(0,.val ⟨y9,false,w,[.S]⟩)] [])),(λ(t2:Int)=>k .ret (mkS 18 18 [(2,.val ⟨(.int .i64),false,t2,[]⟩)] []))):(Unit->Res)×(Int->Res))) (λv rec k=>by kernel_rfl) n v k
theorem joZ {W0:Base} {M:Nat->Prop} (hnp:W0.np<=0):Z1W Tryz.prog W0 M (pl (pr (pl (pr ja4)))) jaX:=show Z1W Tryz.prog W0 M (Code.loop (pl (pl (pr (pl (pr ja4)))))) jaX from Z8X (Z6Q follows j00 (Z7K Z8W) hnp [] (pl (pl (pr (pl (pr ja4))))) .o trivial) (ks:=[0,5,6,7]) (bs:=[]) (fX:=(Z8a ([],[]) [(0,[0],[])] ([2],[]))) (Z8U _ _ _) Z0Y (by
 intro σ k r h
 obtain ⟨hn,h1⟩:=Z8G h
 obtain ⟨w,hs0,h2⟩:=Z8J h1
 obtain ⟨t5,hs5,h3⟩:=Z8J h2
 obtain ⟨t6,hs6,h4⟩:=Z8J h3
 obtain ⟨t7,hs7,h5⟩:=Z8J h4
 refine ⟨_,?_,(joN w t5 t6 Z0Y (t7) k).trans h5⟩
 exact Z9e hn ⟨hs0,hs5,hs6,hs7,trivial⟩ trivial)
noncomputable def jcY (w:qL) (k0:Int->Res):Res:=
 jel w (nI (List.length w)) Z0Y 0
  (λ(_:Unit)=>
   k0 (nI (List.length w)))
  (λ(t:Int)=>
   k0 t)
noncomputable def jjm:Sig Unit:=⟨[.look y9 false],[false],λvals ext k=>av vals y9 λw vals=>nl vals<|nl ext<|jcY w (λ(r0:Int)=>k [⟨(.int .i64),false,r0,[]⟩] [] [])⟩
theorem jqs (w:qL) (a_w:Bool) (t_w:List Tag) (k:qK):Z6X jeP [jaX] (.t .o (.t (.t .o (.t (.x 0) .o)) .o)) false Tryz.f220 [.look y9 false] [false] [⟨y9,a_w,w,t_w⟩] [] k=jcY w (λ(r0:Int)=>k [⟨(.int .i64),false,r0,[]⟩] [] []):=by kernel_rfl
theorem jii:Z1k Tryz.prog 220 jjm:=Z8N (Γ:=jeP) (X:=[jaX]) (ht:=(.t .o (.t (.t .o (.t (.x 0) .o)) .o))) (fz:=false) (c:=ja4) follows j00 Z8W (Z1A.mk trivial ((Z1A.mk ((Z1A.mk trivial ((Z1A.mk (Z1A.x_mk (λW0 M hnp=>joZ (W0:=W0) (M:=M) hnp)) trivial)))) trivial))) Tryz.func220 (by kernel_rfl) (by kernel_rfl) (by decide) (by
 intro vals ext k r h
 obtain ⟨w,a_w,t_w,vals,rfl,h1⟩:=Z8T h
 obtain ⟨rfl,h2⟩:=Z90 h1
 obtain ⟨rfl,h3⟩:=Z90 h2
 exact (jqs w a_w t_w k).trans h3)
noncomputable def j7T:Code:=(Tryz.f221.body).getD .skip
noncomputable def jdp:Env Unit:=⟨tys,[(255,jdD)],0⟩
noncomputable def j52 (t9:qL) (t10:Int) (out:List qV) (t11:Int) (rec:qW->Int->Res) (k0:qW->Res):Res:=
 bif decide (t11<t10) then
  bif inb t11 (List.length t9) then
   j4h (nth eS t9 t11) λ(r:Int×Int×qB) (r1:Bool)=>
    bif decide ((nI (List.length out))<=8) then
     bif lim ((List.length out)+1) then
      rec (out++[r]) (Z8g (t11+1))
     else none
    else
     rec out (Z8g (t11+1))
  else none
 else
  k0 out
noncomputable def j7t (t9:qL) (t10:Int):(qW×Int)->(qW×Int->Res)->((qW->Res))->Res:=λv rec q=>j52 t9 t10 v.1 v.2 (λout t11=>rec (out,t11)) q
noncomputable def jcX (t9:qL) (t10:Int) (n:Nat) (out:List qV) (t11:Int) (k0:qW->Res):Res:=Z10 (j7t t9 t10) n (out,t11) (k0)
noncomputable def j8L:Z1l Unit:=λσ k=>rdN σ 29<|rdV σ 3 y3 false [.O] λout=>rdV σ 9 y9 false [.S] λt9=>rdV σ 10 (.int .i64) false [] λt10=>rdV σ 11 (.int .i64) false [] λt11=>jcX t9 t10 Z0Y out t11 (λ(out1:List qV)=>k (.exit 0) (mkS 29 29 [(3,.val ⟨y3,false,out1,[.O]⟩)] []))
theorem jlK (t9:qL) (t10:Int) (n:Nat) (v:qW×Int) (k:Z6G Unit):Z3X (Z0R jdp [] .o (pl (pl (pr (pl (pr (pr j7T))))))) (λσ=>σ.forget [3,9,10,11] []) (Z8a ([],[]) [(0,[3],[])] ([],[])) n (mkS 29 29 [(3,.val ⟨y3,false,v.1,[.O]⟩),(9,.val ⟨y9,false,t9,[.S]⟩),(10,.val ⟨(.int .i64),false,t10,[]⟩),(11,.val ⟨(.int .i64),false,v.2,[]⟩)] []) k=Z10 (j7t t9 t10) n v ((λ(k:Z6G Unit)=>(((λ(out1:List qV)=>k (.exit 0) (mkS 29 29 [(3,.val ⟨y3,false,out1,[.O]⟩)] []))):(qW->Res))) k):=Z80 (λv:qW×Int=>(mkS 29 29 [(3,.val ⟨y3,false,v.1,[.O]⟩),(9,.val ⟨y9,false,t9,[.S]⟩),(10,.val ⟨(.int .i64),false,t10,[]⟩),(11,.val ⟨(.int .i64),false,v.2,[]⟩)] [])) (j7t t9 t10) (λ(k:Z6G Unit)=>(((λ(out1:List qV)=>k (.exit 0) (mkS 29 29 [(3,.val ⟨y3,false,out1,[.O]⟩)] []))):(qW->Res))) (λv rec k=>by kernel_rfl) n v k
theorem jmx {W0:Base} {M:Nat->Prop} (hnp:W0.np<=0):Z1W Tryz.prog W0 M (pl (pr (pl (pr (pr j7T))))) j8L:=show Z1W Tryz.prog W0 M (Code.loop (pl (pl (pr (pl (pr (pr j7T))))))) j8L from Z8X (Z6Q follows j00 (Z7K (Z8C j7L Z8W)) hnp [] (pl (pl (pr (pl (pr (pr j7T)))))) .o trivial) (ks:=[3,9,10,11]) (bs:=[]) (fX:=(Z8a ([],[]) [(0,[3],[])] ([],[]))) (Z8U _ _ _) Z0Y (by
 intro σ k r h
 obtain ⟨hn,h1⟩:=Z8G h
 obtain ⟨out,hs3,h2⟩:=Z8J h1
 obtain ⟨t9,hs9,h3⟩:=Z8J h2
 obtain ⟨t10,hs10,h4⟩:=Z8J h3
 obtain ⟨t11,hs11,h5⟩:=Z8J h4
 refine ⟨_,?_,(jlK t9 t10 Z0Y (out,t11) k).trans h5⟩
 exact Z9e hn ⟨hs3,hs9,hs10,hs11,trivial⟩ trivial)
noncomputable def j4j (w:qL) (k0:qW->Res):Res:=
 jcX w (nI (List.length w)) Z0Y [] 0 λ(out:List qV)=>
  k0 out
noncomputable def jgN:Sig Unit:=⟨[.borrow y9 false],[false],λvals ext k=>av vals y9 λw vals=>nl vals<|nl ext<|j4j w (λ(r0:List qV)=>k [⟨y3,false,r0,[.O]⟩] [] [])⟩
theorem jot (w:qL) (a_w:Bool) (t_w:List Tag) (k:qK):Z6X jdp [j8L] (.t .o (.t .o (.t (.t .o (.t (.x 0) .o)) .o))) false Tryz.f221 [.borrow y9 false] [false] [⟨y9,a_w,w,t_w⟩] [] k=j4j w (λ(r0:List qV)=>k [⟨y3,false,r0,[.O]⟩] [] []):=by kernel_rfl
theorem jgm:Z1k Tryz.prog 221 jgN:=Z8N (Γ:=jdp) (X:=[j8L]) (ht:=(.t .o (.t .o (.t (.t .o (.t (.x 0) .o)) .o)))) (fz:=false) (c:=j7T) follows j00 (Z8C j7L Z8W) (Z1A.mk trivial ((Z1A.mk trivial ((Z1A.mk ((Z1A.mk trivial ((Z1A.mk (Z1A.x_mk (λW0 M hnp=>jmx (W0:=W0) (M:=M) hnp)) trivial)))) trivial))))) Tryz.func221 (by kernel_rfl) (by kernel_rfl) (by decide) (by
 intro vals ext k r h
 obtain ⟨w,a_w,t_w,vals,rfl,h1⟩:=Z8T h
 obtain ⟨rfl,h2⟩:=Z90 h1
 obtain ⟨rfl,h3⟩:=Z90 h2
 exact (jot w a_w t_w k).trans h3)
noncomputable def jni:Code:=(Tryz.f290.body).getD .skip
noncomputable def jfy:Env Unit:=⟨tys,[],0⟩
noncomputable def j6k (k0:qL->Res):Res:=
 k0 [eS,j1m,j2l,j1A]
noncomputable def jcO:Sig Unit:=⟨[],[false],λvals ext k=>nl vals<|nl ext<|j6k (λ(r0:qL)=>k [⟨y9,false,r0,[.O]⟩] [] [])⟩
theorem jn2  (k:qK):Z6X jfy [] .o false Tryz.f290 [] [false] [] [] k=j6k (λ(r0:qL)=>k [⟨y9,false,r0,[.O]⟩] [] []):=by kernel_rfl
theorem j6o:Z1k Tryz.prog 290 jcO:=Z8N (Γ:=jfy) (X:=[]) (ht:= .o) (fz:=false) (c:=jni) follows j00 Z8W trivial Tryz.func290 (by kernel_rfl) (by kernel_rfl) (by decide) (by
 intro vals ext k r h
 obtain ⟨rfl,h1⟩:=Z90 h
 obtain ⟨rfl,h2⟩:=Z90 h1
 exact (jn2  k).trans h2)
noncomputable def j1q:Code:=(Tryz.f257.body).getD .skip
noncomputable def j7g:Env Unit:=⟨tys,[(255,jdD),(290,jcO)],0⟩
noncomputable def j3u (w:qL) (t17:qL) (t18:Int) (t19:Int) (c:qB×Int×Bool×Bool×Int×Int×qB) (rec:Int->qC->Res) (k0:qC->Res):Res:=
 bif decide (t19<t18) then
  bif inb t19 (List.length t17) then
   bif decide (t19>0) then
    bif inb 1 (List.length w) then
     bif sEq (nth eS t17 t19) (nth eS w 1) then
      rec (Z8g (t19+1)) (c.1,t19,c.2.2)
     else
      rec (Z8g (t19+1)) c
    else none
   else
    rec (Z8g (t19+1)) c
  else none
 else
  k0 c
noncomputable def j5e (w:qL) (t17:qL) (t18:Int):(Int×qC)->(Int×qC->Res)->((qC->Res))->Res:=λv rec q=>j3u w t17 t18 v.1 v.2 (λt19 c=>rec (t19,c)) q
noncomputable def jam (w:qL) (t17:qL) (t18:Int) (n:Nat) (t19:Int) (c:qB×Int×Bool×Bool×Int×Int×qB) (k0:qC->Res):Res:=Z10 (j5e w t17 t18) n (t19,c) (k0)
noncomputable def j2v:Z1l Unit:=λσ k=>rdN σ 64<|rdV σ 0 y9 false [.S] λw=>rdT σ 2 (.ptr ⟨true,2,[]⟩)<|rdT σ 3 (.ptr ⟨true,3,[]⟩)<|rdV σ 17 y9 false [.O] λt17=>rdV σ 18 (.int .i64) false [] λt18=>rdV σ 19 (.int .i64) false [] λt19=>rdB σ 2 y7 [] λa t2=>rdB σ 3 y7 [] λa1 c=>jam w t17 t18 Z0Y t19 c (λ(c1:qB×Int×Bool×Bool×Int×Int×qB)=>k (.exit 0) (mkS 64 64 [(0,.val ⟨y9,false,w,[.S]⟩),(2,.ptr ⟨true,2,[]⟩),(3,.ptr ⟨true,3,[]⟩)] [(2,⟨y7,a,t2,[]⟩),(3,⟨y7,a1,c1,[]⟩)]))
theorem ji4 (w:qL) (t17:qL) (t18:Int) (a:Bool) (t2:qB×Int×Bool×Bool×Int×Int×qB) (a1:Bool) (n:Nat) (v:Int×qC) (k:Z6G Unit):Z3X (Z0R j7g [] .o (pl (pl (pr (pl (pr (pr (pr (pr j1q))))))))) (λσ=>σ.forget [0,2,3,17,18,19] [2,3]) (Z8a ([],[]) [(0,[0,2,3],[2,3])] ([],[])) n (mkS 64 64 [(0,.val ⟨y9,false,w,[.S]⟩),(2,.ptr ⟨true,2,[]⟩),(3,.ptr ⟨true,3,[]⟩),(17,.val ⟨y9,false,t17,[.O]⟩),(18,.val ⟨(.int .i64),false,t18,[]⟩),(19,.val ⟨(.int .i64),false,v.1,[]⟩)] [(2,⟨y7,a,t2,[]⟩),(3,⟨y7,a1,v.2,[]⟩)]) k=Z10 (j5e w t17 t18) n v ((λ(k:Z6G Unit)=>(((λ(c1:qB×Int×Bool×Bool×Int×Int×qB)=>k (.exit 0) (mkS 64 64 [(0,.val ⟨y9,false,w,[.S]⟩),(2,.ptr ⟨true,2,[]⟩),(3,.ptr ⟨true,3,[]⟩)] [(2,⟨y7,a,t2,[]⟩),(3,⟨y7,a1,c1,[]⟩)]))):(qC->Res))) k):=Z80 (λv:Int×qC=>(mkS 64 64 [(0,.val ⟨y9,false,w,[.S]⟩),(2,.ptr ⟨true,2,[]⟩),(3,.ptr ⟨true,3,[]⟩),(17,.val ⟨y9,false,t17,[.O]⟩),(18,.val ⟨(.int .i64),false,t18,[]⟩),(19,.val ⟨(.int .i64),false,v.1,[]⟩)] [(2,⟨y7,a,t2,[]⟩),(3,⟨y7,a1,v.2,[]⟩)])) (j5e w t17 t18) (λ(k:Z6G Unit)=>(((λ(c1:qB×Int×Bool×Bool×Int×Int×qB)=>k (.exit 0) (mkS 64 64 [(0,.val ⟨y9,false,w,[.S]⟩),(2,.ptr ⟨true,2,[]⟩),(3,.ptr ⟨true,3,[]⟩)] [(2,⟨y7,a,t2,[]⟩),(3,⟨y7,a1,c1,[]⟩)]))):(qC->Res))) (λv rec k=>by kernel_rfl) n v k
theorem ji9 {W0:Base} {M:Nat->Prop} (hnp:W0.np<=0):Z1W Tryz.prog W0 M (pl (pr (pl (pr (pr (pr (pr j1q))))))) j2v:=show Z1W Tryz.prog W0 M (Code.loop (pl (pl (pr (pl (pr (pr (pr (pr j1q))))))))) j2v from Z8X (Z6Q follows j00 (Z7K (Z8C j7L (Z8C j6o Z8W))) hnp [] (pl (pl (pr (pl (pr (pr (pr (pr j1q)))))))) .o trivial) (ks:=[0,2,3,17,18,19]) (bs:=[2,3]) (fX:=(Z8a ([],[]) [(0,[0,2,3],[2,3])] ([],[]))) (Z8U _ _ _) Z0Y (by
 intro σ k r h
 obtain ⟨hn,h1⟩:=Z8G h
 obtain ⟨w,hs0,h2⟩:=Z8J h1
 obtain ⟨hs2,h3⟩:=Z8H h2
 obtain ⟨hs3,h4⟩:=Z8H h3
 obtain ⟨t17,hs17,h5⟩:=Z8J h4
 obtain ⟨t18,hs18,h6⟩:=Z8J h5
 obtain ⟨t19,hs19,h7⟩:=Z8J h6
 obtain ⟨a,t2,hb2,h8⟩:=Z8D h7
 obtain ⟨a1,c,hb3,h9⟩:=Z8D h8
 refine ⟨_,?_,(ji4 w t17 t18 a t2 a1 Z0Y (t19,c) k).trans h9⟩
 exact Z9e hn ⟨hs0,hs2,hs3,hs17,hs18,hs19,trivial⟩ ⟨hb2,hb3,trivial⟩)
noncomputable def j3v (t37:qL) (t38:Int) (t39:Int) (c:qB×Int×Bool×Bool×Int×Int×qB) (rec:Int->qC->Res) (k0:qC->Res):Res:=
 bif decide (t39<t38) then
  bif inb t39 (List.length t37) then
   bif sEq (nth eS t37 t39) j7F then
    rec (Z8g (t39+1)) (c.1,c.2.1,true,c.2.2.2)
   else
    bif decide ((nI (ByteArray.size (nth eS t37 t39)))>0) then
     bif inb 0 (ByteArray.size (nth eS t37 t39)) then
      bif ((bt (nth eS t37 t39) 0)==61) then
       bif Z6R 1 (nI (ByteArray.size (nth eS t37 t39))) (ByteArray.size (nth eS t37 t39)) then
        j4h (Z9k (nth eS t37 t39) 1 (nI (ByteArray.size (nth eS t37 t39)))) λ(r:Int×Int×qB) (r1:Bool)=>
         rec (Z8g (t39+1)) (c.1,c.2.1,c.2.2.1,true,r)
       else none
      else
       rec (Z8g (t39+1)) c
     else none
    else
     rec (Z8g (t39+1)) c
  else none
 else
  k0 c
noncomputable def j5f (t37:qL) (t38:Int):(Int×qC)->(Int×qC->Res)->((qC->Res))->Res:=λv rec q=>j3v t37 t38 v.1 v.2 (λt39 c=>rec (t39,c)) q
noncomputable def j33 (t37:qL) (t38:Int) (n:Nat) (t39:Int) (c:qB×Int×Bool×Bool×Int×Int×qB) (k0:qC->Res):Res:=Z10 (j5f t37 t38) n (t39,c) (k0)
noncomputable def j61:Z1l Unit:=λσ k=>rdN σ 64<|rdT σ 2 (.ptr ⟨true,2,[]⟩)<|rdT σ 3 (.ptr ⟨true,3,[]⟩)<|rdV σ 37 y9 false [.S] λt37=>rdV σ 38 (.int .i64) false [] λt38=>rdV σ 39 (.int .i64) false [] λt39=>rdB σ 2 y7 [] λa t2=>rdB σ 3 y7 [] λa1 c=>j33 t37 t38 Z0Y t39 c (λ(c1:qB×Int×Bool×Bool×Int×Int×qB)=>k (.exit 2) (mkS 64 64 [(2,.ptr ⟨true,2,[]⟩),(3,.ptr ⟨true,3,[]⟩)] [(2,⟨y7,a,t2,[]⟩),(3,⟨y7,a1,c1,[]⟩)]))
theorem ji5 (t37:qL) (t38:Int) (a:Bool) (t2:qB×Int×Bool×Bool×Int×Int×qB) (a1:Bool) (n:Nat) (v:Int×qC) (k:Z6G Unit):Z3X (Z0R j7g [j2v] .o (pl (pl (pr (pl (pr (pr (pr (pr (pr j1q)))))))))) (λσ=>σ.forget [2,3,37,38,39] [2,3]) (Z8a ([],[]) [(2,[2,3],[2,3])] ([],[])) n (mkS 64 64 [(2,.ptr ⟨true,2,[]⟩),(3,.ptr ⟨true,3,[]⟩),(37,.val ⟨y9,false,t37,[.S]⟩),(38,.val ⟨(.int .i64),false,t38,[]⟩),(39,.val ⟨(.int .i64),false,v.1,[]⟩)] [(2,⟨y7,a,t2,[]⟩),(3,⟨y7,a1,v.2,[]⟩)]) k=Z10 (j5f t37 t38) n v ((λ(k:Z6G Unit)=>(((λ(c1:qB×Int×Bool×Bool×Int×Int×qB)=>k (.exit 2) (mkS 64 64 [(2,.ptr ⟨true,2,[]⟩),(3,.ptr ⟨true,3,[]⟩)] [(2,⟨y7,a,t2,[]⟩),(3,⟨y7,a1,c1,[]⟩)]))):(qC->Res))) k):=Z80 (λv:Int×qC=>(mkS 64 64 [(2,.ptr ⟨true,2,[]⟩),(3,.ptr ⟨true,3,[]⟩),(37,.val ⟨y9,false,t37,[.S]⟩),(38,.val ⟨(.int .i64),false,t38,[]⟩),(39,.val ⟨(.int .i64),false,v.1,[]⟩)] [(2,⟨y7,a,t2,[]⟩),(3,⟨y7,a1,v.2,[]⟩)])) (j5f t37 t38) (λ(k:Z6G Unit)=>(((λ(c1:qB×Int×Bool×Bool×Int×Int×qB)=>k (.exit 2) (mkS 64 64 [(2,.ptr ⟨true,2,[]⟩),(3,.ptr ⟨true,3,[]⟩)] [(2,⟨y7,a,t2,[]⟩),(3,⟨y7,a1,c1,[]⟩)]))):(qC->Res))) (λv rec k=>by kernel_rfl) n v k
theorem jia {W0:Base} {M:Nat->Prop} (hnp:W0.np<=0):Z1W Tryz.prog W0 M (pl (pr (pl (pr (pr (pr (pr (pr j1q)))))))) j61:=show Z1W Tryz.prog W0 M (Code.loop (pl (pl (pr (pl (pr (pr (pr (pr (pr j1q)))))))))) j61 from Z8X (Z6Q follows j00 (Z7K (Z8C j7L (Z8C j6o Z8W))) hnp [j2v] (pl (pl (pr (pl (pr (pr (pr (pr (pr j1q))))))))) .o trivial) (ks:=[2,3,37,38,39]) (bs:=[2,3]) (fX:=(Z8a ([],[]) [(2,[2,3],[2,3])] ([],[]))) (Z8U _ _ _) Z0Y (by
 intro σ k r h
 obtain ⟨hn,h1⟩:=Z8G h
 obtain ⟨hs2,h2⟩:=Z8H h1
 obtain ⟨hs3,h3⟩:=Z8H h2
 obtain ⟨t37,hs37,h4⟩:=Z8J h3
 obtain ⟨t38,hs38,h5⟩:=Z8J h4
 obtain ⟨t39,hs39,h6⟩:=Z8J h5
 obtain ⟨a,t2,hb2,h7⟩:=Z8D h6
 obtain ⟨a1,c,hb3,h8⟩:=Z8D h7
 refine ⟨_,?_,(ji5 t37 t38 a t2 a1 Z0Y (t39,c) k).trans h8⟩
 exact Z9e hn ⟨hs2,hs3,hs37,hs38,hs39,trivial⟩ ⟨hb2,hb3,trivial⟩)
noncomputable def j4t (w:qL) (k0:qC->Res):Res:=
 bif decide ((nI (List.length w))<2) then
  k0 (eS,0,false,false,0,0,eS)
 else
  bif inb 0 (List.length w) then
   j6k λ(r:qL)=>
    jam w r (nI (List.length r)) Z0Y 0 (nth eS w 0,0,false,false,0,0,eS) λ(c:qB×Int×Bool×Bool×Int×Int×qB)=>
     bif Z6R 2 (nI (List.length w)) (List.length w) then
      j33 (sub w 2 (nI (List.length w))) (nI (List.length (sub w 2 (nI (List.length w))))) Z0Y 0 c λ(c1:qB×Int×Bool×Bool×Int×Int×qB)=>
       k0 c1
     else none
  else none
noncomputable def jb4:Sig Unit:=⟨[.look y9 false],[true],λvals ext k=>av vals y9 λw vals=>nl vals<|nl ext<|j4t w (λ(r0:qB×Int×Bool×Bool×Int×Int×qB)=>k [⟨y7,true,r0,[]⟩] [] [])⟩
theorem jjD (w:qL) (a_w:Bool) (t_w:List Tag) (k:qK):Z6X j7g [j2v,j61] (.t .o (.t .o (.t .o (.t .o (.t (.t .o (.t (.x 0) .o)) (.t (.t .o (.t (.x 1) .o)) .o)))))) false Tryz.f257 [.look y9 false] [true] [⟨y9,a_w,w,t_w⟩] [] k=j4t w (λ(r0:qB×Int×Bool×Bool×Int×Int×qB)=>k [⟨y7,true,r0,[]⟩] [] []):=by kernel_rfl
theorem j1p:Z1k Tryz.prog 257 jb4:=Z8N (Γ:=j7g) (X:=[j2v,j61]) (ht:=(.t .o (.t .o (.t .o (.t .o (.t (.t .o (.t (.x 0) .o)) (.t (.t .o (.t (.x 1) .o)) .o))))))) (fz:=false) (c:=j1q) follows j00 (Z8C j7L (Z8C j6o Z8W)) (Z1A.mk trivial ((Z1A.mk trivial ((Z1A.mk trivial ((Z1A.mk trivial ((Z1A.mk ((Z1A.mk trivial ((Z1A.mk (Z1A.x_mk (λW0 M hnp=>ji9 (W0:=W0) (M:=M) hnp)) trivial)))) ((Z1A.mk ((Z1A.mk trivial ((Z1A.mk (Z1A.x_mk (λW0 M hnp=>jia (W0:=W0) (M:=M) hnp)) trivial)))) trivial))))))))))) Tryz.func257 (by kernel_rfl) (by kernel_rfl) (by decide) (by
 intro vals ext k r h
 obtain ⟨w,a_w,t_w,vals,rfl,h1⟩:=Z8T h
 obtain ⟨rfl,h2⟩:=Z90 h1
 obtain ⟨rfl,h3⟩:=Z90 h2
 exact (jjD w a_w t_w k).trans h3)
noncomputable def j1B:Code:=(Tryz.f256.body).getD .skip
noncomputable def j8g:Env Unit:=⟨tys,[(257,jb4)],0⟩
noncomputable def j3M (w:qL) (i:Int) (rec:Int->Res) (k0:Int->Res):Res:=
 bif decide (i<(nI (List.length w))) then
  bif inb i (List.length w) then
   bif sNe (nth eS w i) j1a then
    rec (Z8g (i+1))
   else
    k0 i
  else none
 else
  k0 i
noncomputable def j2t (w:qL):Int->(Int->Res)->((Int->Res))->Res:=λv rec q=>j3M w v (λi=>rec (i)) q
noncomputable def jb5 (w:qL) (n:Nat) (i:Int) (k0:Int->Res):Res:=Z10 (j2t w) n (i) (k0)
noncomputable def j35:Z1l Unit:=λσ k=>rdN σ 62<|rdV σ 1 y9 false [.S] λw=>rdT σ 2 (.ptr ⟨true,2,[]⟩)<|rdT σ 4 (.ptr ⟨true,4,[]⟩)<|rdV σ 5 (.int .i64) false [] λi=>rdV σ 6 (.int .i64) false [] λfrom_=>rdV σ 12 y9 false [.S] λt12=>rdV σ 13 (.int .i64) false [] λt13=>rdE σ 14 .str false [] .S λt14=>rdV σ 15 .str false [] λt15=>rdV σ 16 .bool false [] λt16=>rdB σ 2 y14 [.O,.O] λa d=>rdB σ 4 y14 [.O,.O] λa1 t4=>jb5 w Z0Y i (λ(i1:Int)=>k (.exit 2) (mkS 62 62 [(1,.val ⟨y9,false,w,[.S]⟩),(2,.ptr ⟨true,2,[]⟩),(4,.ptr ⟨true,4,[]⟩),(5,.val ⟨(.int .i64),false,i1,[]⟩),(6,.val ⟨(.int .i64),false,from_,[]⟩),(12,.val ⟨y9,false,t12,[.S]⟩),(13,.val ⟨(.int .i64),false,t13,[]⟩),(14,.eptr ⟨.str,false,t14,[]⟩ .S),(15,.val ⟨.str,false,t15,[]⟩),(16,.val ⟨.bool,false,t16,[]⟩)] [(2,⟨y14,a,d,[.O,.O]⟩),(4,⟨y14,a1,t4,[.O,.O]⟩)]))
theorem jix (w:qL) (from_:Int) (t12:qL) (t13:Int) (t14:qB) (t15:qB) (t16:Bool) (a:Bool) (d:qG) (a1:Bool) (t4:qG) (n:Nat) (v:Int) (k:Z6G Unit):Z3X (Z0R j8g [] .o (pl (pl (pl (pr (pl (pr (pl (pl (pl (pr (pr j1B)))))))))))) (λσ=>σ.forget [1,2,4,5,6,12,13,14,15,16] [2,4]) (Z8a ([],[]) [(2,[1,2,4,5,6,12,13,14,15,16],[2,4])] ([],[])) n (mkS 62 62 [(1,.val ⟨y9,false,w,[.S]⟩),(2,.ptr ⟨true,2,[]⟩),(4,.ptr ⟨true,4,[]⟩),(5,.val ⟨(.int .i64),false,v,[]⟩),(6,.val ⟨(.int .i64),false,from_,[]⟩),(12,.val ⟨y9,false,t12,[.S]⟩),(13,.val ⟨(.int .i64),false,t13,[]⟩),(14,.eptr ⟨.str,false,t14,[]⟩ .S),(15,.val ⟨.str,false,t15,[]⟩),(16,.val ⟨.bool,false,t16,[]⟩)] [(2,⟨y14,a,d,[.O,.O]⟩),(4,⟨y14,a1,t4,[.O,.O]⟩)]) k=Z10 (j2t w) n v ((λ(k:Z6G Unit)=>(((λ(i1:Int)=>k (.exit 2) (mkS 62 62 [(1,.val ⟨y9,false,w,[.S]⟩),(2,.ptr ⟨true,2,[]⟩),(4,.ptr ⟨true,4,[]⟩),(5,.val ⟨(.int .i64),false,i1,[]⟩),(6,.val ⟨(.int .i64),false,from_,[]⟩),(12,.val ⟨y9,false,t12,[.S]⟩),(13,.val ⟨(.int .i64),false,t13,[]⟩),(14,.eptr ⟨.str,false,t14,[]⟩ .S),(15,.val ⟨.str,false,t15,[]⟩),(16,.val ⟨.bool,false,t16,[]⟩)] [(2,⟨y14,a,d,[.O,.O]⟩),(4,⟨y14,a1,t4,[.O,.O]⟩)]))):(Int->Res))) k):=Z80 (λv:Int=>(mkS 62 62 [(1,.val ⟨y9,false,w,[.S]⟩),(2,.ptr ⟨true,2,[]⟩),(4,.ptr ⟨true,4,[]⟩),(5,.val ⟨(.int .i64),false,v,[]⟩),(6,.val ⟨(.int .i64),false,from_,[]⟩),(12,.val ⟨y9,false,t12,[.S]⟩),(13,.val ⟨(.int .i64),false,t13,[]⟩),(14,.eptr ⟨.str,false,t14,[]⟩ .S),(15,.val ⟨.str,false,t15,[]⟩),(16,.val ⟨.bool,false,t16,[]⟩)] [(2,⟨y14,a,d,[.O,.O]⟩),(4,⟨y14,a1,t4,[.O,.O]⟩)])) (j2t w) (λ(k:Z6G Unit)=>(((λ(i1:Int)=>k (.exit 2) (mkS 62 62 [(1,.val ⟨y9,false,w,[.S]⟩),(2,.ptr ⟨true,2,[]⟩),(4,.ptr ⟨true,4,[]⟩),(5,.val ⟨(.int .i64),false,i1,[]⟩),(6,.val ⟨(.int .i64),false,from_,[]⟩),(12,.val ⟨y9,false,t12,[.S]⟩),(13,.val ⟨(.int .i64),false,t13,[]⟩),(14,.eptr ⟨.str,false,t14,[]⟩ .S),(15,.val ⟨.str,false,t15,[]⟩),(16,.val ⟨.bool,false,t16,[]⟩)] [(2,⟨y14,a,d,[.O,.O]⟩),(4,⟨y14,a1,t4,[.O,.O]⟩)]))):(Int->Res))) (λv rec k=>by kernel_rfl) n v k
theorem jj9 {W0:Base} {M:Nat->Prop} (hnp:W0.np<=0):Z1W Tryz.prog W0 M (pl (pl (pr (pl (pr (pl (pl (pl (pr (pr j1B)))))))))) j35:=show Z1W Tryz.prog W0 M (Code.loop (pl (pl (pl (pr (pl (pr (pl (pl (pl (pr (pr j1B)))))))))))) j35 from Z8X (Z6Q follows j00 (Z7K (Z8C j1p Z8W)) hnp [] (pl (pl (pl (pr (pl (pr (pl (pl (pl (pr (pr j1B))))))))))) .o trivial) (ks:=[1,2,4,5,6,12,13,14,15,16]) (bs:=[2,4]) (fX:=(Z8a ([],[]) [(2,[1,2,4,5,6,12,13,14,15,16],[2,4])] ([],[]))) (Z8U _ _ _) Z0Y (by
 intro σ k r h
 obtain ⟨hn,h1⟩:=Z8G h
 obtain ⟨w,hs1,h2⟩:=Z8J h1
 obtain ⟨hs2,h3⟩:=Z8H h2
 obtain ⟨hs4,h4⟩:=Z8H h3
 obtain ⟨i,hs5,h5⟩:=Z8J h4
 obtain ⟨from_,hs6,h6⟩:=Z8J h5
 obtain ⟨t12,hs12,h7⟩:=Z8J h6
 obtain ⟨t13,hs13,h8⟩:=Z8J h7
 obtain ⟨t14,hs14,h9⟩:=Z8F h8
 obtain ⟨t15,hs15,h10⟩:=Z8J h9
 obtain ⟨t16,hs16,h11⟩:=Z8J h10
 obtain ⟨a,d,hb2,h12⟩:=Z8D h11
 obtain ⟨a1,t4,hb4,h13⟩:=Z8D h12
 refine ⟨_,?_,(jix w from_ t12 t13 t14 t15 t16 a d a1 t4 Z0Y (i) k).trans h13⟩
 exact Z9e hn ⟨hs1,hs2,hs4,hs5,hs6,hs12,hs13,hs14,hs15,hs16,trivial⟩ ⟨hb2,hb4,trivial⟩)
noncomputable def j0Q (w:qL) (i:Int) (d:qG) (rec:Int->qG->Res) (k0:Int->qG->Res):Res:=
 bif decide (i<(nI (List.length w))) then
  bif inb i (List.length w) then
   bif sEq (nth eS w i) j1b then
    jb5 w Z0Y i λ(i1:Int)=>
     bif decide (i1<(nI (List.length w))) then
      bif Z6R (Z8g (i+1)) i1 (List.length w) then
       j4t (sub w (Z8g (i+1)) i1) λ(r:qB×Int×Bool×Bool×Int×Int×qB)=>
        bif lim ((List.length d.2.2.1)+1) then
         rec (Z8g (i1+1)) (d.1,d.2.1,(d.2.2.1++[r]),d.2.2.2)
        else none
      else none
     else
      rec (Z8g (i1+1)) d
   else
    k0 i d
  else none
 else
  k0 i d
noncomputable def j2u (w:qL):(Int×qG)->(Int×qG->Res)->((Int->qG->Res))->Res:=λv rec q=>j0Q w v.1 v.2 (λi d=>rec (i,d)) q
noncomputable def jb6 (w:qL) (n:Nat) (i:Int) (d:qG) (k0:Int->qG->Res):Res:=Z10 (j2u w) n (i,d) (k0)
noncomputable def j72:Z1l Unit:=λσ k=>rdN σ 62<|rdV σ 1 y9 false [.S] λw=>rdT σ 2 (.ptr ⟨true,2,[]⟩)<|rdT σ 4 (.ptr ⟨true,4,[]⟩)<|rdV σ 5 (.int .i64) false [] λi=>rdB σ 2 y14 [.O,.O] λa d=>rdB σ 4 y14 [.O,.O] λa1 t4=>jb6 w Z0Y i d (λ(i2:Int) (d1:qG)=>k (.exit 0) (mkS 62 62 [(1,.val ⟨y9,false,w,[.S]⟩),(2,.ptr ⟨true,2,[]⟩),(4,.ptr ⟨true,4,[]⟩),(5,.val ⟨(.int .i64),false,i2,[]⟩)] [(2,⟨y14,a,d1,[.O,.O]⟩),(4,⟨y14,a1,t4,[.O,.O]⟩)]))
theorem jiy (w:qL) (a:Bool) (a1:Bool) (t4:qG) (n:Nat) (v:Int×qG) (k:Z6G Unit):Z3X (Z0R j8g [j35] (.t .o (.t (.t .o (.t (.t (.x 0) .o) .o)) .o)) (pl (pl (pl (pr (pr j1B)))))) (λσ=>σ.forget [1,2,4,5] [2,4]) (Z8a ([],[]) [(0,[1,2,4,5],[2,4])] ([],[])) n (mkS 62 62 [(1,.val ⟨y9,false,w,[.S]⟩),(2,.ptr ⟨true,2,[]⟩),(4,.ptr ⟨true,4,[]⟩),(5,.val ⟨(.int .i64),false,v.1,[]⟩)] [(2,⟨y14,a,v.2,[.O,.O]⟩),(4,⟨y14,a1,t4,[.O,.O]⟩)]) k=Z10 (j2u w) n v ((λ(k:Z6G Unit)=>(((λ(i2:Int) (d1:qG)=>k (.exit 0) (mkS 62 62 [(1,.val ⟨y9,false,w,[.S]⟩),(2,.ptr ⟨true,2,[]⟩),(4,.ptr ⟨true,4,[]⟩),(5,.val ⟨(.int .i64),false,i2,[]⟩)] [(2,⟨y14,a,d1,[.O,.O]⟩),(4,⟨y14,a1,t4,[.O,.O]⟩)]))):(Int->qG->Res))) k):=Z80 (λv:Int×qG=>(mkS 62 62 [(1,.val ⟨y9,false,w,[.S]⟩),(2,.ptr ⟨true,2,[]⟩),(4,.ptr ⟨true,4,[]⟩),(5,.val ⟨(.int .i64),false,v.1,[]⟩)] [(2,⟨y14,a,v.2,[.O,.O]⟩),(4,⟨y14,a1,t4,[.O,.O]⟩)])) (j2u w) (λ(k:Z6G Unit)=>(((λ(i2:Int) (d1:qG)=>k (.exit 0) (mkS 62 62 [(1,.val ⟨y9,false,w,[.S]⟩),(2,.ptr ⟨true,2,[]⟩),(4,.ptr ⟨true,4,[]⟩),(5,.val ⟨(.int .i64),false,i2,[]⟩)] [(2,⟨y14,a,d1,[.O,.O]⟩),(4,⟨y14,a1,t4,[.O,.O]⟩)]))):(Int->qG->Res))) (λv rec k=>by kernel_rfl) n v k
theorem jja {W0:Base} {M:Nat->Prop} (hnp:W0.np<=0):Z1W Tryz.prog W0 M (pl (pl (pr (pr j1B)))) j72:=show Z1W Tryz.prog W0 M (Code.loop (pl (pl (pl (pr (pr j1B)))))) j72 from Z8X (Z6Q follows j00 (Z7K (Z8C j1p Z8W)) hnp [j35] (pl (pl (pl (pr (pr j1B))))) (.t .o (.t (.t .o (.t (.t (.x 0) .o) .o)) .o)) (Z1A.mk trivial ((Z1A.mk ((Z1A.mk trivial ((Z1A.mk ((Z1A.mk (Z1A.x_mk (λW0 M hnp=>jj9 (W0:=W0) (M:=M) hnp)) trivial)) trivial)))) trivial)))) (ks:=[1,2,4,5]) (bs:=[2,4]) (fX:=(Z8a ([],[]) [(0,[1,2,4,5],[2,4])] ([],[]))) (Z8U _ _ _) Z0Y (by
 intro σ k r h
 obtain ⟨hn,h1⟩:=Z8G h
 obtain ⟨w,hs1,h2⟩:=Z8J h1
 obtain ⟨hs2,h3⟩:=Z8H h2
 obtain ⟨hs4,h4⟩:=Z8H h3
 obtain ⟨i,hs5,h5⟩:=Z8J h4
 obtain ⟨a,d,hb2,h6⟩:=Z8D h5
 obtain ⟨a1,t4,hb4,h7⟩:=Z8D h6
 refine ⟨_,?_,(jiy w a a1 t4 Z0Y (i,d) k).trans h7⟩
 exact Z9e hn ⟨hs1,hs2,hs4,hs5,trivial⟩ ⟨hb2,hb4,trivial⟩)
noncomputable def j5r (d:qG) (w:qL) (k0:qG->Res):Res:=
 jb6 w Z0Y 0 d λ(i:Int) (d1:qG)=>
  bif decide ((Z8g (i+1))<(nI (List.length w))) then
   bif Z6R (Z8g (i+1)) (nI (List.length w)) (List.length w) then
    bif lim (0+(List.length (sub w (Z8g (i+1)) (nI (List.length w))))) then
     k0 (d1.1,d1.2.1,d1.2.2.1,sub w (Z8g (i+1)) (nI (List.length w)),d1.2.2.2.2)
    else none
   else none
  else
   k0 d1
noncomputable def jf6:Sig Unit:=⟨[.eat y14 true,.borrow y9 false],[true],λvals ext k=>ao vals y14 [.O,.O] λd vals=>av vals y9 λw vals=>nl vals<|nl ext<|j5r d w (λ(r0:qG)=>k [⟨y14,true,r0,[.O,.O]⟩] [] [])⟩
theorem jkQ (a_d:Bool) (d:qG) (w:qL) (a_w:Bool) (t_w:List Tag) (k:qK):Z6X j8g [j35,j72] (.t .o (.t .o (.t (.t (.x 1) .o) .o))) false Tryz.f256 [.eat y14 true,.borrow y9 false] [true] [⟨y14,a_d,d,[.O,.O]⟩,⟨y9,a_w,w,t_w⟩] [] k=j5r d w (λ(r0:qG)=>k [⟨y14,true,r0,[.O,.O]⟩] [] []):=by kernel_rfl
theorem j3O:Z1k Tryz.prog 256 jf6:=Z8N (Γ:=j8g) (X:=[j35,j72]) (ht:=(.t .o (.t .o (.t (.t (.x 1) .o) .o)))) (fz:=false) (c:=j1B) follows j00 (Z8C j1p Z8W) (Z1A.mk trivial ((Z1A.mk trivial ((Z1A.mk ((Z1A.mk (Z1A.x_mk (λW0 M hnp=>jja (W0:=W0) (M:=M) hnp)) trivial)) trivial))))) Tryz.func256 (by kernel_rfl) (by kernel_rfl) (by decide) (by
 intro vals ext k r h
 obtain ⟨a_d,d,vals,rfl,h1⟩:=Z8S h
 obtain ⟨w,a_w,t_w,vals,rfl,h2⟩:=Z8T h1
 obtain ⟨rfl,h3⟩:=Z90 h2
 obtain ⟨rfl,h4⟩:=Z90 h3
 exact (jkQ a_d d w a_w t_w k).trans h4)
noncomputable def jbs:Code:=(Tryz.f288.body).getD .skip
noncomputable def jea:Env Unit:=⟨tys,[(253,jaM),(290,jcO)],0⟩
noncomputable def jaS (out:qL) (t13:Bool) (k0:qL->Res):Res:=
 bif t13 then
  bif lim ((List.length out)+1) then
   k0 (out++[j7F])
  else none
 else
  k0 out
noncomputable def jd5:Z1l Unit:=λσ k=>rdN σ 27<|rdT σ 1 (.ptr ⟨true,1,[]⟩)<|rdV σ 3 y9 false [.O] λout=>rdV σ 13 .bool false [] λt13=>rdB σ 1 y7 [] λa c=>jaS out t13 (λ(out1:qL)=>k .normal (mkS 27 27 [(1,.ptr ⟨true,1,[]⟩),(3,.val ⟨y9,false,out1,[.O]⟩)] [(1,⟨y7,a,c,[]⟩)]))
theorem jnw (out:qL) (t13:Bool) (a:Bool) (c:qB×Int×Bool×Bool×Int×Int×qB) (k:Z6G Unit):Z0R jea [] .o (pr (pl (pr (pr jbs)))) (mkS 27 27 [(1,.ptr ⟨true,1,[]⟩),(3,.val ⟨y9,false,out,[.O]⟩),(13,.val ⟨.bool,false,t13,[]⟩)] [(1,⟨y7,a,c,[]⟩)]) (λe σ=>k e ((Z8a ([1,3],[1]) [] ([],[])) e σ))=jaS out t13 (λ(out1:qL)=>k .normal (mkS 27 27 [(1,.ptr ⟨true,1,[]⟩),(3,.val ⟨y9,false,out1,[.O]⟩)] [(1,⟨y7,a,c,[]⟩)])):=by kernel_rfl
theorem jnO {W0:Base} {M:Nat->Prop} (hnp:W0.np<=0):Z1W Tryz.prog W0 M (pr (pl (pr (pr jbs)))) jd5:=Z91 (Z6Q follows j00 (Z7K (Z8C j2h (Z8C j6o Z8W))) hnp [] ((pr (pl (pr (pr jbs))))) .o trivial) (fg:=(Z8a ([1,3],[1]) [] ([],[]))) (Z8U _ _ _) (by
 intro σ k r h
 obtain ⟨hn,h1⟩:=Z8G h
 obtain ⟨hs1,h2⟩:=Z8H h1
 obtain ⟨out,hs3,h3⟩:=Z8J h2
 obtain ⟨t13,hs13,h4⟩:=Z8J h3
 obtain ⟨a,c,hb1,h5⟩:=Z8D h4
 refine ⟨_,?_,(jnw out t13 a c k).trans h5⟩
 exact Z9e hn ⟨hs1,hs3,hs13,trivial⟩ ⟨hb1,trivial⟩)
noncomputable def j40 (c:qB×Int×Bool×Bool×Int×Int×qB) (k0:qL->Res):Res:=
 j6k λ(r:qL)=>
  bif inb c.2.1 (List.length r) then
   jaS [c.1,nth eS r c.2.1] c.2.2.1 λ(out:qL)=>
    bif c.2.2.2.1 then
     j5M c.2.2.2.2 λ(r1:qB)=>
      bif lim (1+(ByteArray.size r1)) then
       bif lim ((List.length out)+1) then
        k0 (out++[(j62++r1)])
       else none
      else none
    else
     k0 out
  else none
noncomputable def jhW:Sig Unit:=⟨[.borrow y7 true],[false],λvals ext k=>av vals y7 λc vals=>nl vals<|nl ext<|j40 c (λ(r0:qL)=>k [⟨y9,false,r0,[.O]⟩] [] [])⟩
theorem jpJ (c:qB×Int×Bool×Bool×Int×Int×qB) (a_c:Bool) (t_c:List Tag) (k:qK):Z6X jea [jd5] (.t .o (.t .o (.t (.t .o (.x 0)) .o))) false Tryz.f288 [.borrow y7 true] [false] [⟨y7,a_c,c,t_c⟩] [] k=j40 c (λ(r0:qL)=>k [⟨y9,false,r0,[.O]⟩] [] []):=by kernel_rfl
theorem je0:Z1k Tryz.prog 288 jhW:=Z8N (Γ:=jea) (X:=[jd5]) (ht:=(.t .o (.t .o (.t (.t .o (.x 0)) .o)))) (fz:=false) (c:=jbs) follows j00 (Z8C j2h (Z8C j6o Z8W)) (Z1A.mk trivial ((Z1A.mk trivial ((Z1A.mk ((Z1A.mk trivial (Z1A.x_mk (λW0 M hnp=>jnO (W0:=W0) (M:=M) hnp)))) trivial))))) Tryz.func288 (by kernel_rfl) (by kernel_rfl) (by decide) (by
 intro vals ext k r h
 obtain ⟨c,a_c,t_c,vals,rfl,h1⟩:=Z8T h
 obtain ⟨rfl,h2⟩:=Z90 h1
 obtain ⟨rfl,h3⟩:=Z90 h2
 exact (jpJ c a_c t_c k).trans h3)
noncomputable def j3B:Code:=(Tryz.f254.body).getD .skip
noncomputable def jbt:Env Unit:=⟨tys,[(288,jhW)],0⟩
noncomputable def j5O (t19:List qC) (t20:Int) (out:qL) (t21:Int) (rec:qL->Int->Res) (k0:qL->Res):Res:=
 bif decide (t21<t20) then
  bif inb t21 (List.length t19) then
   Z6L
    (Z6L
     (bif lim ((List.length out)+1) then
      Z6L
       (j40 (nth (eS,0,false,false,0,0,eS) t19 t21) λ(r:qL)=>
        Z6L
         (bif lim ((List.length (out++[j1b]))+(List.length r)) then
          bif lim ((List.length ((out++[j1b])++r))+1) then
           rec (((out++[j1b])++r)++[j1a]) (Z8g (t21+1))
          else none
         else none)
         (bif lim ((List.length (out++[j1b]))+(List.length r)) then
          bif lim ((List.length ((out++[j1b])++r))+1) then
           rec (((out++[j1b])++r)++[j1a]) (Z8g (t21+1))
          else none
         else none))
       (j40 (nth (eS,0,false,false,0,0,eS) t19 t21) λ(r1:qL)=>
        bif lim ((List.length (out++[j1b]))+(List.length r1)) then
         bif lim ((List.length ((out++[j1b])++r1))+1) then
          rec (((out++[j1b])++r1)++[j1a]) (Z8g (t21+1))
         else none
        else none)
     else none)
     (bif lim ((List.length out)+1) then
      j40 (nth (eS,0,false,false,0,0,eS) t19 t21) λ(r2:qL)=>
       bif lim ((List.length (out++[j1b]))+(List.length r2)) then
        bif lim ((List.length ((out++[j1b])++r2))+1) then
         rec (((out++[j1b])++r2)++[j1a]) (Z8g (t21+1))
        else none
       else none
     else none))
    (bif lim ((List.length out)+1) then
     j40 (nth (eS,0,false,false,0,0,eS) t19 t21) λ(r3:qL)=>
      bif lim ((List.length (out++[j1b]))+(List.length r3)) then
       bif lim ((List.length ((out++[j1b])++r3))+1) then
        rec (((out++[j1b])++r3)++[j1a]) (Z8g (t21+1))
       else none
      else none
    else none)
  else none
 else
  k0 out
noncomputable def j8y (t19:List qC) (t20:Int):(qL×Int)->(qL×Int->Res)->((qL->Res))->Res:=λv rec q=>j5O t19 t20 v.1 v.2 (λout t21=>rec (out,t21)) q
noncomputable def jdG (t19:List qC) (t20:Int) (n:Nat) (out:qL) (t21:Int) (k0:qL->Res):Res:=Z10 (j8y t19 t20) n (out,t21) (k0)
noncomputable def j4u:Z1l Unit:=λσ k=>rdN σ 66<|rdT σ 1 (.ptr ⟨true,1,[]⟩)<|rdV σ 3 y9 false [.O] λout=>rdV σ 19 y8 false [.S] λt19=>rdV σ 20 (.int .i64) false [] λt20=>rdV σ 21 (.int .i64) false [] λt21=>rdB σ 1 y14 [.S,.S] λa d=>jdG t19 t20 Z0Y out t21 (λ(out1:qL)=>k (.exit 1) (mkS 66 66 [(1,.ptr ⟨true,1,[]⟩),(3,.val ⟨y9,false,out1,[.O]⟩)] [(1,⟨y14,a,d,[.S,.S]⟩)]))
theorem jnx (t19:List qC) (t20:Int) (a:Bool) (d:qG) (n:Nat) (v:qL×Int) (k:Z6G Unit):Z3X (Z0R jbt [] .o (pl (pl (pr (pl (pl (pr (pl (pr (pl (pr (pr j3B)))))))))))) (λσ=>σ.forget [1,3,19,20,21] [1]) (Z8a ([],[]) [(1,[1,3],[1])] ([],[])) n (mkS 66 66 [(1,.ptr ⟨true,1,[]⟩),(3,.val ⟨y9,false,v.1,[.O]⟩),(19,.val ⟨y8,false,t19,[.S]⟩),(20,.val ⟨(.int .i64),false,t20,[]⟩),(21,.val ⟨(.int .i64),false,v.2,[]⟩)] [(1,⟨y14,a,d,[.S,.S]⟩)]) k=Z10 (j8y t19 t20) n v ((λ(k:Z6G Unit)=>(((λ(out1:qL)=>k (.exit 1) (mkS 66 66 [(1,.ptr ⟨true,1,[]⟩),(3,.val ⟨y9,false,out1,[.O]⟩)] [(1,⟨y14,a,d,[.S,.S]⟩)]))):(qL->Res))) k):=Z80 (λv:qL×Int=>(mkS 66 66 [(1,.ptr ⟨true,1,[]⟩),(3,.val ⟨y9,false,v.1,[.O]⟩),(19,.val ⟨y8,false,t19,[.S]⟩),(20,.val ⟨(.int .i64),false,t20,[]⟩),(21,.val ⟨(.int .i64),false,v.2,[]⟩)] [(1,⟨y14,a,d,[.S,.S]⟩)])) (j8y t19 t20) (λ(k:Z6G Unit)=>(((λ(out1:qL)=>k (.exit 1) (mkS 66 66 [(1,.ptr ⟨true,1,[]⟩),(3,.val ⟨y9,false,out1,[.O]⟩)] [(1,⟨y14,a,d,[.S,.S]⟩)]))):(qL->Res))) (λv rec k=>by kernel_rfl) n v k
theorem jnP {W0:Base} {M:Nat->Prop} (hnp:W0.np<=0):Z1W Tryz.prog W0 M (pl (pr (pl (pl (pr (pl (pr (pl (pr (pr j3B)))))))))) j4u:=show Z1W Tryz.prog W0 M (Code.loop (pl (pl (pr (pl (pl (pr (pl (pr (pl (pr (pr j3B)))))))))))) j4u from Z8X (Z6Q follows j00 (Z7K (Z8C je0 Z8W)) hnp [] (pl (pl (pr (pl (pl (pr (pl (pr (pl (pr (pr j3B))))))))))) .o trivial) (ks:=[1,3,19,20,21]) (bs:=[1]) (fX:=(Z8a ([],[]) [(1,[1,3],[1])] ([],[]))) (Z8U _ _ _) Z0Y (by
 intro σ k r h
 obtain ⟨hn,h1⟩:=Z8G h
 obtain ⟨hs1,h2⟩:=Z8H h1
 obtain ⟨out,hs3,h3⟩:=Z8J h2
 obtain ⟨t19,hs19,h4⟩:=Z8J h3
 obtain ⟨t20,hs20,h5⟩:=Z8J h4
 obtain ⟨t21,hs21,h6⟩:=Z8J h5
 obtain ⟨a,d,hb1,h7⟩:=Z8D h6
 refine ⟨_,?_,(jnx t19 t20 a d Z0Y (out,t21) k).trans h7⟩
 exact Z9e hn ⟨hs1,hs3,hs19,hs20,hs21,trivial⟩ ⟨hb1,trivial⟩)
noncomputable def jaT (out:qL) (t15:Int) (d:qG) (k0:qL->Res):Res:=
 bif (t15==1) then
  jdG d.2.2.1 (nI (List.length d.2.2.1)) Z0Y out 0 λ(out1:qL)=>
   bif lim ((List.length out1)+1) then
    bif lim ((List.length (out1++[j2m]))+(List.length d.2.2.2.1)) then
     k0 ((out1++[j2m])++d.2.2.2.1)
    else none
   else none
 else
  bif (t15==3) then
   bif inb 0 (List.length d.2.2.1) then
    j40 (nth (eS,0,false,false,0,0,eS) d.2.2.1 0) λ(r:qL)=>
     bif lim ((List.length out)+(List.length r)) then
      k0 (out++r)
     else none
   else none
  else
   bif (t15==4) then
    bif lim ((List.length out)+1) then
     k0 (out++[d.2.2.2.2.1])
    else none
   else
    bif (t15==5) then
     bif lim ((List.length out)+2) then
      k0 (out++[d.2.2.2.2.1,d.2.2.2.2.2])
     else none
    else
     k0 out
noncomputable def jd6:Z1l Unit:=λσ k=>rdN σ 66<|rdT σ 1 (.ptr ⟨true,1,[]⟩)<|rdV σ 3 y9 false [.O] λout=>rdV σ 15 (.int .i64) false [] λt15=>rdB σ 1 y14 [.S,.S] λa d=>jaT out t15 d (λ(out2:qL)=>k .normal (mkS 66 66 [(3,.val ⟨y9,false,out2,[.O]⟩)] []))
theorem jny (out:qL) (t15:Int) (a:Bool) (d:qG) (k:Z6G Unit):Z0R jbt [j4u] (.t (.t .o (.t (.t (.t .o (.t (.x 0) .o)) .o) .o)) .o) (pr (pl (pr (pr j3B)))) (mkS 66 66 [(1,.ptr ⟨true,1,[]⟩),(3,.val ⟨y9,false,out,[.O]⟩),(15,.val ⟨(.int .i64),false,t15,[]⟩)] [(1,⟨y14,a,d,[.S,.S]⟩)]) (λe σ=>k e ((Z8a ([3],[]) [] ([],[])) e σ))=jaT out t15 d (λ(out2:qL)=>k .normal (mkS 66 66 [(3,.val ⟨y9,false,out2,[.O]⟩)] [])):=by kernel_rfl
theorem jnQ {W0:Base} {M:Nat->Prop} (hnp:W0.np<=0):Z1W Tryz.prog W0 M (pr (pl (pr (pr j3B)))) jd6:=Z91 (Z6Q follows j00 (Z7K (Z8C je0 Z8W)) hnp [j4u] ((pr (pl (pr (pr j3B))))) (.t (.t .o (.t (.t (.t .o (.t (.x 0) .o)) .o) .o)) .o) (Z1A.mk ((Z1A.mk trivial ((Z1A.mk ((Z1A.mk ((Z1A.mk trivial ((Z1A.mk (Z1A.x_mk (λW0 M hnp=>jnP (W0:=W0) (M:=M) hnp)) trivial)))) trivial)) trivial)))) trivial)) (fg:=(Z8a ([3],[]) [] ([],[]))) (Z8U _ _ _) (by
 intro σ k r h
 obtain ⟨hn,h1⟩:=Z8G h
 obtain ⟨hs1,h2⟩:=Z8H h1
 obtain ⟨out,hs3,h3⟩:=Z8J h2
 obtain ⟨t15,hs15,h4⟩:=Z8J h3
 obtain ⟨a,d,hb1,h5⟩:=Z8D h4
 refine ⟨_,?_,(jny out t15 a d k).trans h5⟩
 exact Z9e hn ⟨hs1,hs3,hs15,trivial⟩ ⟨hb1,trivial⟩)
noncomputable def jbl (d:qG) (k0:qL->Res):Res:=
 bif inb d.1 6 then
  jaT [nth eS [eS,j17,j3N,j4v,j74,j36] d.1,d.2.1] d.1 d λ(out:qL)=>
   k0 out
 else none
noncomputable def jhX:Sig Unit:=⟨[.borrow y14 true],[false],λvals ext k=>av vals y14 λd vals=>nl vals<|nl ext<|jbl d (λ(r0:qL)=>k [⟨y9,false,r0,[.O]⟩] [] [])⟩
theorem jpK (d:qG) (a_d:Bool) (t_d:List Tag) (k:qK):Z6X jbt [j4u,jd6] (.t .o (.t .o (.t (.t .o (.x 1)) .o))) false Tryz.f254 [.borrow y14 true] [false] [⟨y14,a_d,d,t_d⟩] [] k=jbl d (λ(r0:qL)=>k [⟨y9,false,r0,[.O]⟩] [] []):=by kernel_rfl
theorem jpP:Z1k Tryz.prog 254 jhX:=Z8N (Γ:=jbt) (X:=[j4u,jd6]) (ht:=(.t .o (.t .o (.t (.t .o (.x 1)) .o)))) (fz:=false) (c:=j3B) follows j00 (Z8C je0 Z8W) (Z1A.mk trivial ((Z1A.mk trivial ((Z1A.mk ((Z1A.mk trivial (Z1A.x_mk (λW0 M hnp=>jnQ (W0:=W0) (M:=M) hnp)))) trivial))))) Tryz.func254 (by kernel_rfl) (by kernel_rfl) (by decide) (by
 intro vals ext k r h
 obtain ⟨d,a_d,t_d,vals,rfl,h1⟩:=Z8T h
 obtain ⟨rfl,h2⟩:=Z90 h1
 obtain ⟨rfl,h3⟩:=Z90 h2
 exact (jpK d a_d t_d k).trans h3)
noncomputable def j7S:Code:=(Tryz.f217.body).getD .skip
noncomputable def jdo:Env Unit:=⟨tys,[],0⟩
noncomputable def j51 (t6:qL) (t7:Int) (out:qB) (t8:Int) (rec:qB->Int->Res) (k0:qB->Res):Res:=
 bif decide (t8<t7) then
  bif inb t8 (List.length t6) then
   bif decide (t8>0) then
    bif lim ((ByteArray.size out)+1) then
     bif lim ((ByteArray.size (out++j0e))+(ByteArray.size (nth eS t6 t8))) then
      rec ((out++j0e)++(nth eS t6 t8)) (Z8g (t8+1))
     else none
    else none
   else
    bif lim ((ByteArray.size out)+(ByteArray.size (nth eS t6 t8))) then
     rec (out++(nth eS t6 t8)) (Z8g (t8+1))
    else none
  else none
 else
  k0 out
noncomputable def j7s (t6:qL) (t7:Int):(qB×Int)->(qB×Int->Res)->((qB->Res))->Res:=λv rec q=>j51 t6 t7 v.1 v.2 (λout t8=>rec (out,t8)) q
noncomputable def jcW (t6:qL) (t7:Int) (n:Nat) (out:qB) (t8:Int) (k0:qB->Res):Res:=Z10 (j7s t6 t7) n (out,t8) (k0)
noncomputable def j8K:Z1l Unit:=λσ k=>rdN σ 22<|rdV σ 3 .str false [] λout=>rdV σ 6 y9 false [.S] λt6=>rdV σ 7 (.int .i64) false [] λt7=>rdV σ 8 (.int .i64) false [] λt8=>jcW t6 t7 Z0Y out t8 (λ(out1:qB)=>k (.exit 0) (mkS 22 22 [(3,.val ⟨.str,false,out1,[]⟩)] []))
theorem jlJ (t6:qL) (t7:Int) (n:Nat) (v:qB×Int) (k:Z6G Unit):Z3X (Z0R jdo [] .o (pl (pl (pr (pl (pr (pr j7S))))))) (λσ=>σ.forget [3,6,7,8] []) (Z8a ([],[]) [(0,[3],[])] ([],[])) n (mkS 22 22 [(3,.val ⟨.str,false,v.1,[]⟩),(6,.val ⟨y9,false,t6,[.S]⟩),(7,.val ⟨(.int .i64),false,t7,[]⟩),(8,.val ⟨(.int .i64),false,v.2,[]⟩)] []) k=Z10 (j7s t6 t7) n v ((λ(k:Z6G Unit)=>(((λ(out1:qB)=>k (.exit 0) (mkS 22 22 [(3,.val ⟨.str,false,out1,[]⟩)] []))):(qB->Res))) k):=Z80 (λv:qB×Int=>(mkS 22 22 [(3,.val ⟨.str,false,v.1,[]⟩),(6,.val ⟨y9,false,t6,[.S]⟩),(7,.val ⟨(.int .i64),false,t7,[]⟩),(8,.val ⟨(.int .i64),false,v.2,[]⟩)] [])) (j7s t6 t7) (λ(k:Z6G Unit)=>(((λ(out1:qB)=>k (.exit 0) (mkS 22 22 [(3,.val ⟨.str,false,out1,[]⟩)] []))):(qB->Res))) (λv rec k=>by kernel_rfl) n v k
theorem jmw {W0:Base} {M:Nat->Prop} (hnp:W0.np<=0):Z1W Tryz.prog W0 M (pl (pr (pl (pr (pr j7S))))) j8K:=show Z1W Tryz.prog W0 M (Code.loop (pl (pl (pr (pl (pr (pr j7S))))))) j8K from Z8X (Z6Q follows j00 (Z7K Z8W) hnp [] (pl (pl (pr (pl (pr (pr j7S)))))) .o trivial) (ks:=[3,6,7,8]) (bs:=[]) (fX:=(Z8a ([],[]) [(0,[3],[])] ([],[]))) (Z8U _ _ _) Z0Y (by
 intro σ k r h
 obtain ⟨hn,h1⟩:=Z8G h
 obtain ⟨out,hs3,h2⟩:=Z8J h1
 obtain ⟨t6,hs6,h3⟩:=Z8J h2
 obtain ⟨t7,hs7,h4⟩:=Z8J h3
 obtain ⟨t8,hs8,h5⟩:=Z8J h4
 refine ⟨_,?_,(jlJ t6 t7 Z0Y (out,t8) k).trans h5⟩
 exact Z9e hn ⟨hs3,hs6,hs7,hs8,trivial⟩ trivial)
noncomputable def j1v (l:qL) (k0:qB->Res):Res:=
 jcW l (nI (List.length l)) Z0Y eS 0 λ(out:qB)=>
  k0 out
noncomputable def jdE:Sig Unit:=⟨[.look y9 false],[false],λvals ext k=>av vals y9 λl vals=>nl vals<|nl ext<|j1v l (λ(r0:qB)=>k [⟨.str,false,r0,[]⟩] [] [])⟩
theorem jos (l:qL) (a_l:Bool) (t_l:List Tag) (k:qK):Z6X jdo [j8K] (.t .o (.t .o (.t (.t .o (.t (.x 0) .o)) .o))) false Tryz.f217 [.look y9 false] [false] [⟨y9,a_l,l,t_l⟩] [] k=j1v l (λ(r0:qB)=>k [⟨.str,false,r0,[]⟩] [] []):=by kernel_rfl
theorem jd9:Z1k Tryz.prog 217 jdE:=Z8N (Γ:=jdo) (X:=[j8K]) (ht:=(.t .o (.t .o (.t (.t .o (.t (.x 0) .o)) .o)))) (fz:=false) (c:=j7S) follows j00 Z8W (Z1A.mk trivial ((Z1A.mk trivial ((Z1A.mk ((Z1A.mk trivial ((Z1A.mk (Z1A.x_mk (λW0 M hnp=>jmw (W0:=W0) (M:=M) hnp)) trivial)))) trivial))))) Tryz.func217 (by kernel_rfl) (by kernel_rfl) (by decide) (by
 intro vals ext k r h
 obtain ⟨l,a_l,t_l,vals,rfl,h1⟩:=Z8T h
 obtain ⟨rfl,h2⟩:=Z90 h1
 obtain ⟨rfl,h3⟩:=Z90 h2
 exact (jos l a_l t_l k).trans h3)
noncomputable def joz:Code:=(Tryz.f219.body).getD .skip
noncomputable def jgt:Env Unit:=⟨tys,[(71,jf5),(217,jdE),(254,jhX)],0⟩
noncomputable def j87 (d:qG) (k0:qB->Res):Res:=
 jaQ d λ(r:Bool)=>
  bif !r then
   k0 eS
  else
   jbl d λ(r1:qL)=>
    j1v r1 λ(r2:qB)=>
     k0 r2
noncomputable def jdB:Sig Unit:=⟨[.look y14 true],[false],λvals ext k=>av vals y14 λd vals=>nl vals<|nl ext<|j87 d (λ(r0:qB)=>k [⟨.str,false,r0,[]⟩] [] [])⟩
theorem jog (d:qG) (a_d:Bool) (t_d:List Tag) (k:qK):Z6X jgt [] .o false Tryz.f219 [.look y14 true] [false] [⟨y14,a_d,d,t_d⟩] [] k=j87 d (λ(r0:qB)=>k [⟨.str,false,r0,[]⟩] [] []):=by kernel_rfl
theorem j2O:Z1k Tryz.prog 219 jdB:=Z8N (Γ:=jgt) (X:=[]) (ht:= .o) (fz:=false) (c:=joz) follows j00 (Z8C jeD (Z8C jd9 (Z8C jpP Z8W))) trivial Tryz.func219 (by kernel_rfl) (by kernel_rfl) (by decide) (by
 intro vals ext k r h
 obtain ⟨d,a_d,t_d,vals,rfl,h1⟩:=Z8T h
 obtain ⟨rfl,h2⟩:=Z90 h1
 obtain ⟨rfl,h3⟩:=Z90 h2
 exact (jog d a_d t_d k).trans h3)
noncomputable def j0A:Code:=(Tryz.f222.body).getD .skip
noncomputable def j3Q:Env Unit:=⟨tys,[(109,jaj),(219,jdB),(256,jf6),(257,jb4)],0⟩
noncomputable def j9N (k0:Unit->Res):Res:=
 k0 ()
noncomputable def j16:Z1l Unit:=λσ k=>rdN σ 79<|rdT σ 2 (.ptr ⟨true,2,[]⟩)<|rdV σ 3 .bool false [] λt3=>rdB σ 2 y14 [.O,.O] λa t2=>j9N (λ(_:Unit)=>k .ret (mkS 79 79 [(2,.ptr ⟨true,2,[]⟩),(3,.val ⟨.bool,false,t3,[]⟩)] [(2,⟨y14,a,t2,[.O,.O]⟩)]))
theorem jlr (t3:Bool) (a:Bool) (t2:qG) (k:Z6G Unit):Z0R j3Q [] .o (pr (pr (pr (pr (pr (pr (pr (pr (pr (pr j0A)))))))))) (mkS 79 79 [(2,.ptr ⟨true,2,[]⟩),(3,.val ⟨.bool,false,t3,[]⟩)] [(2,⟨y14,a,t2,[.O,.O]⟩)]) (λe σ=>k e ((Z8a ([],[]) [] ([2,3],[2])) e σ))=j9N (λ(_:Unit)=>k .ret (mkS 79 79 [(2,.ptr ⟨true,2,[]⟩),(3,.val ⟨.bool,false,t3,[]⟩)] [(2,⟨y14,a,t2,[.O,.O]⟩)])):=by kernel_rfl
theorem jme {W0:Base} {M:Nat->Prop} (hnp:W0.np<=0):Z1W Tryz.prog W0 M (pr (pr (pr (pr (pr (pr (pr (pr (pr (pr j0A)))))))))) j16:=Z91 (Z6Q follows j00 (Z7K (Z8C j0S (Z8C j2O (Z8C j3O (Z8C j1p Z8W))))) hnp [] ((pr (pr (pr (pr (pr (pr (pr (pr (pr (pr j0A))))))))))) .o trivial) (fg:=(Z8a ([],[]) [] ([2,3],[2]))) (Z8U _ _ _) (by
 intro σ k r h
 obtain ⟨hn,h1⟩:=Z8G h
 obtain ⟨hs2,h2⟩:=Z8H h1
 obtain ⟨t3,hs3,h3⟩:=Z8J h2
 obtain ⟨a,t2,hb2,h4⟩:=Z8D h3
 refine ⟨_,?_,(jlr t3 a t2 k).trans h4⟩
 exact Z9e hn ⟨hs2,hs3,trivial⟩ ⟨hb2,trivial⟩)
noncomputable def j9O (k0:Unit->Res):Res:=
 j9N λ(_:Unit)=>
  k0 ()
noncomputable def j1E:Z1l Unit:=λσ k=>rdN σ 79<|rdT σ 2 (.ptr ⟨true,2,[]⟩)<|rdT σ 5 (.ptr ⟨true,5,[]⟩)<|rdB σ 2 y14 [.O,.O] λa t2=>rdB σ 5 y14 [.O,.O] λa1 d=>j9O (λ(_:Unit)=>k .ret (mkS 79 79 [(2,.ptr ⟨true,2,[]⟩),(3,.val ⟨.bool,false,true,[]⟩)] [(2,⟨y14,a,d,[.O,.O]⟩)]))
theorem jls (a:Bool) (t2:qG) (a1:Bool) (d:qG) (k:Z6G Unit):Z0R j3Q [j16] (.t .o (.x 0)) (pr (pr (pr (pr (pr (pr (pr (pr (pr j0A))))))))) (mkS 79 79 [(2,.ptr ⟨true,2,[]⟩),(5,.ptr ⟨true,5,[]⟩)] [(2,⟨y14,a,t2,[.O,.O]⟩),(5,⟨y14,a1,d,[.O,.O]⟩)]) (λe σ=>k e ((Z8a ([],[]) [] ([2,3],[2])) e σ))=j9O (λ(_:Unit)=>k .ret (mkS 79 79 [(2,.ptr ⟨true,2,[]⟩),(3,.val ⟨.bool,false,true,[]⟩)] [(2,⟨y14,a,d,[.O,.O]⟩)])):=by kernel_rfl
theorem jmf {W0:Base} {M:Nat->Prop} (hnp:W0.np<=0):Z1W Tryz.prog W0 M (pr (pr (pr (pr (pr (pr (pr (pr (pr j0A))))))))) j1E:=Z91 (Z6Q follows j00 (Z7K (Z8C j0S (Z8C j2O (Z8C j3O (Z8C j1p Z8W))))) hnp [j16] ((pr (pr (pr (pr (pr (pr (pr (pr (pr j0A)))))))))) (.t .o (.x 0)) (Z1A.mk trivial (Z1A.x_mk (λW0 M hnp=>jme (W0:=W0) (M:=M) hnp)))) (fg:=(Z8a ([],[]) [] ([2,3],[2]))) (Z8U _ _ _) (by
 intro σ k r h
 obtain ⟨hn,h1⟩:=Z8G h
 obtain ⟨hs2,h2⟩:=Z8H h1
 obtain ⟨hs5,h3⟩:=Z8H h2
 obtain ⟨a,t2,hb2,h4⟩:=Z8D h3
 obtain ⟨a1,d,hb5,h5⟩:=Z8D h4
 refine ⟨_,?_,(jls a t2 a1 d k).trans h5⟩
 exact Z9e hn ⟨hs2,hs5,trivial⟩ ⟨hb2,hb5,trivial⟩)
noncomputable def j3o (s:qB) (d:qG) (k0:Bool->qG->Res):Res:=
 j87 d λ(r:qB)=>
  bif sNe r s then
   k0 false (0,eS,[],[],eS,eS)
  else
   j9O λ(_:Unit)=>
    k0 true d
noncomputable def j2K:Z1l Unit:=λσ k=>rdN σ 79<|rdV σ 0 .str false [] λs=>rdT σ 2 (.ptr ⟨true,2,[]⟩)<|rdT σ 5 (.ptr ⟨true,5,[]⟩)<|rdB σ 2 y14 [.O,.O] λa t2=>rdB σ 5 y14 [.O,.O] λa1 d=>j3o s d (λ(t3:Bool) (t21:qG)=>k .ret (mkS 79 79 [(2,.ptr ⟨true,2,[]⟩),(3,.val ⟨.bool,false,t3,[]⟩)] [(2,⟨y14,a,t21,[.O,.O]⟩)]))
theorem jlt (s:qB) (a:Bool) (t2:qG) (a1:Bool) (d:qG) (k:Z6G Unit):Z0R j3Q [j16,j1E] (.t .o (.x 1)) (pr (pr (pr (pr (pr (pr (pr (pr j0A)))))))) (mkS 79 79 [(0,.val ⟨.str,false,s,[]⟩),(2,.ptr ⟨true,2,[]⟩),(5,.ptr ⟨true,5,[]⟩)] [(2,⟨y14,a,t2,[.O,.O]⟩),(5,⟨y14,a1,d,[.O,.O]⟩)]) (λe σ=>k e ((Z8a ([],[]) [] ([2,3],[2])) e σ))=j3o s d (λ(t3:Bool) (t21:qG)=>k .ret (mkS 79 79 [(2,.ptr ⟨true,2,[]⟩),(3,.val ⟨.bool,false,t3,[]⟩)] [(2,⟨y14,a,t21,[.O,.O]⟩)])):=by kernel_rfl
theorem jmg {W0:Base} {M:Nat->Prop} (hnp:W0.np<=0):Z1W Tryz.prog W0 M (pr (pr (pr (pr (pr (pr (pr (pr j0A)))))))) j2K:=Z91 (Z6Q follows j00 (Z7K (Z8C j0S (Z8C j2O (Z8C j3O (Z8C j1p Z8W))))) hnp [j16,j1E] ((pr (pr (pr (pr (pr (pr (pr (pr j0A))))))))) (.t .o (.x 1)) (Z1A.mk trivial (Z1A.x_mk (λW0 M hnp=>jmf (W0:=W0) (M:=M) hnp)))) (fg:=(Z8a ([],[]) [] ([2,3],[2]))) (Z8U _ _ _) (by
 intro σ k r h
 obtain ⟨hn,h1⟩:=Z8G h
 obtain ⟨s,hs0,h2⟩:=Z8J h1
 obtain ⟨hs2,h3⟩:=Z8H h2
 obtain ⟨hs5,h4⟩:=Z8H h3
 obtain ⟨a,t2,hb2,h5⟩:=Z8D h4
 obtain ⟨a1,d,hb5,h6⟩:=Z8D h5
 refine ⟨_,?_,(jlt s a t2 a1 d k).trans h6⟩
 exact Z9e hn ⟨hs0,hs2,hs5,trivial⟩ ⟨hb2,hb5,trivial⟩)
noncomputable def j2s (s:qB) (w:qL) (d:qG) (k0:Bool->qG->Res):Res:=
 bif (d.1==5) then
  bif decide ((nI (List.length w))>3) then
   bif inb 3 (List.length w) then
    j3o s (d.1,d.2.1,d.2.2.1,d.2.2.2.1,d.2.2.2.2.1,nth eS w 3) λ(t:Bool) (t1:qG)=>
     k0 t t1
   else none
  else
   j3o s d λ(t3:Bool) (t4:qG)=>
    k0 t3 t4
 else
  j3o s d λ(t5:Bool) (t6:qG)=>
   k0 t5 t6
noncomputable def j5S:Z1l Unit:=λσ k=>rdN σ 79<|rdV σ 0 .str false [] λs=>rdT σ 2 (.ptr ⟨true,2,[]⟩)<|rdV σ 4 y9 false [.S] λw=>rdT σ 5 (.ptr ⟨true,5,[]⟩)<|rdB σ 2 y14 [.O,.O] λa t2=>rdB σ 5 y14 [.O,.O] λa1 d=>j2s s w d (λ(t3:Bool) (t21:qG)=>k .ret (mkS 79 79 [(2,.ptr ⟨true,2,[]⟩),(3,.val ⟨.bool,false,t3,[]⟩)] [(2,⟨y14,a,t21,[.O,.O]⟩)]))
theorem jlu (s:qB) (w:qL) (a:Bool) (t2:qG) (a1:Bool) (d:qG) (k:Z6G Unit):Z0R j3Q [j16,j1E,j2K] (.t .o (.x 2)) (pr (pr (pr (pr (pr (pr (pr j0A))))))) (mkS 79 79 [(0,.val ⟨.str,false,s,[]⟩),(2,.ptr ⟨true,2,[]⟩),(4,.val ⟨y9,false,w,[.S]⟩),(5,.ptr ⟨true,5,[]⟩)] [(2,⟨y14,a,t2,[.O,.O]⟩),(5,⟨y14,a1,d,[.O,.O]⟩)]) (λe σ=>k e ((Z8a ([],[]) [] ([2,3],[2])) e σ))=j2s s w d (λ(t3:Bool) (t21:qG)=>k .ret (mkS 79 79 [(2,.ptr ⟨true,2,[]⟩),(3,.val ⟨.bool,false,t3,[]⟩)] [(2,⟨y14,a,t21,[.O,.O]⟩)])):=by kernel_rfl
theorem jmh {W0:Base} {M:Nat->Prop} (hnp:W0.np<=0):Z1W Tryz.prog W0 M (pr (pr (pr (pr (pr (pr (pr j0A))))))) j5S:=Z91 (Z6Q follows j00 (Z7K (Z8C j0S (Z8C j2O (Z8C j3O (Z8C j1p Z8W))))) hnp [j16,j1E,j2K] ((pr (pr (pr (pr (pr (pr (pr j0A)))))))) (.t .o (.x 2)) (Z1A.mk trivial (Z1A.x_mk (λW0 M hnp=>jmg (W0:=W0) (M:=M) hnp)))) (fg:=(Z8a ([],[]) [] ([2,3],[2]))) (Z8U _ _ _) (by
 intro σ k r h
 obtain ⟨hn,h1⟩:=Z8G h
 obtain ⟨s,hs0,h2⟩:=Z8J h1
 obtain ⟨hs2,h3⟩:=Z8H h2
 obtain ⟨w,hs4,h4⟩:=Z8J h3
 obtain ⟨hs5,h5⟩:=Z8H h4
 obtain ⟨a,t2,hb2,h6⟩:=Z8D h5
 obtain ⟨a1,d,hb5,h7⟩:=Z8D h6
 refine ⟨_,?_,(jlu s w a t2 a1 d k).trans h7⟩
 exact Z9e hn ⟨hs0,hs2,hs4,hs5,trivial⟩ ⟨hb2,hb5,trivial⟩)
noncomputable def j1y (s:qB) (w:qL) (d:qG) (k0:Bool->qG->Res):Res:=
 bif (d.1==4) then
  bif decide ((nI (List.length w))>2) then
   bif inb 2 (List.length w) then
    j2s s w (d.1,d.2.1,d.2.2.1,d.2.2.2.1,nth eS w 2,d.2.2.2.2.2) λ(t:Bool) (t1:qG)=>
     k0 t t1
   else none
  else
   j2s s w d λ(t3:Bool) (t4:qG)=>
    k0 t3 t4
 else
  bif (d.1==5) then
   bif decide ((nI (List.length w))>2) then
    bif inb 2 (List.length w) then
     j2s s w (d.1,d.2.1,d.2.2.1,d.2.2.2.1,nth eS w 2,d.2.2.2.2.2) λ(t5:Bool) (t6:qG)=>
      k0 t5 t6
    else none
   else
    j2s s w d λ(t7:Bool) (t8:qG)=>
     k0 t7 t8
  else
   j2s s w d λ(t9:Bool) (t10:qG)=>
    k0 t9 t10
noncomputable def jbZ:Z1l Unit:=λσ k=>rdN σ 79<|rdV σ 0 .str false [] λs=>rdT σ 2 (.ptr ⟨true,2,[]⟩)<|rdV σ 4 y9 false [.S] λw=>rdT σ 5 (.ptr ⟨true,5,[]⟩)<|rdB σ 2 y14 [.O,.O] λa t2=>rdB σ 5 y14 [.O,.O] λa1 d=>j1y s w d (λ(t3:Bool) (t21:qG)=>k .ret (mkS 79 79 [(2,.ptr ⟨true,2,[]⟩),(3,.val ⟨.bool,false,t3,[]⟩)] [(2,⟨y14,a,t21,[.O,.O]⟩)]))
theorem jlv (s:qB) (w:qL) (a:Bool) (t2:qG) (a1:Bool) (d:qG) (k:Z6G Unit):Z0R j3Q [j16,j1E,j2K,j5S] (.t .o (.x 3)) (pr (pr (pr (pr (pr (pr j0A)))))) (mkS 79 79 [(0,.val ⟨.str,false,s,[]⟩),(2,.ptr ⟨true,2,[]⟩),(4,.val ⟨y9,false,w,[.S]⟩),(5,.ptr ⟨true,5,[]⟩)] [(2,⟨y14,a,t2,[.O,.O]⟩),(5,⟨y14,a1,d,[.O,.O]⟩)]) (λe σ=>k e ((Z8a ([],[]) [] ([2,3],[2])) e σ))=j1y s w d (λ(t3:Bool) (t21:qG)=>k .ret (mkS 79 79 [(2,.ptr ⟨true,2,[]⟩),(3,.val ⟨.bool,false,t3,[]⟩)] [(2,⟨y14,a,t21,[.O,.O]⟩)])):=by kernel_rfl
theorem jmi {W0:Base} {M:Nat->Prop} (hnp:W0.np<=0):Z1W Tryz.prog W0 M (pr (pr (pr (pr (pr (pr j0A)))))) jbZ:=Z91 (Z6Q follows j00 (Z7K (Z8C j0S (Z8C j2O (Z8C j3O (Z8C j1p Z8W))))) hnp [j16,j1E,j2K,j5S] ((pr (pr (pr (pr (pr (pr j0A))))))) (.t .o (.x 3)) (Z1A.mk trivial (Z1A.x_mk (λW0 M hnp=>jmh (W0:=W0) (M:=M) hnp)))) (fg:=(Z8a ([],[]) [] ([2,3],[2]))) (Z8U _ _ _) (by
 intro σ k r h
 obtain ⟨hn,h1⟩:=Z8G h
 obtain ⟨s,hs0,h2⟩:=Z8J h1
 obtain ⟨hs2,h3⟩:=Z8H h2
 obtain ⟨w,hs4,h4⟩:=Z8J h3
 obtain ⟨hs5,h5⟩:=Z8H h4
 obtain ⟨a,t2,hb2,h6⟩:=Z8D h5
 obtain ⟨a1,d,hb5,h7⟩:=Z8D h6
 refine ⟨_,?_,(jlv s w a t2 a1 d k).trans h7⟩
 exact Z9e hn ⟨hs0,hs2,hs4,hs5,trivial⟩ ⟨hb2,hb5,trivial⟩)
noncomputable def j4f (s:qB) (k0:qG->Bool->Res):Res:=
 j6X s λ(r:qL)=>
  bif decide ((nI (List.length r))<2) then
   k0 (0,eS,[],[],eS,eS) false
  else
   bif inb 1 (List.length r) then
    bif inb 0 (List.length r) then
     bif sEq (nth eS r 0) j17 then
      bif Z6R 2 (nI (List.length r)) (List.length r) then
       j5r (1,nth eS r 1,[],[],eS,eS) (sub r 2 (nI (List.length r))) λ(r1:qG)=>
        j1y s r r1 λ(t:Bool) (t1:qG)=>
         k0 t1 t
      else none
     else
      bif sEq (nth eS r 0) j3N then
       j1y s r (2,nth eS r 1,[],[],eS,eS) λ(t2:Bool) (t3:qG)=>
        k0 t3 t2
      else
       bif sEq (nth eS r 0) j4v then
        bif Z6R 2 (nI (List.length r)) (List.length r) then
         j4t (sub r 2 (nI (List.length r))) λ(r2:qB×Int×Bool×Bool×Int×Int×qB)=>
          j1y s r (3,nth eS r 1,[r2],[],eS,eS) λ(t4:Bool) (t5:qG)=>
           k0 t5 t4
        else none
       else
        bif sEq (nth eS r 0) j74 then
         j1y s r (4,nth eS r 1,[],[],eS,eS) λ(t6:Bool) (t7:qG)=>
          k0 t7 t6
        else
         bif sEq (nth eS r 0) j36 then
          j1y s r (5,nth eS r 1,[],[],eS,eS) λ(t8:Bool) (t9:qG)=>
           k0 t9 t8
         else
          j1y s r (0,nth eS r 1,[],[],eS,eS) λ(t10:Bool) (t11:qG)=>
           k0 t11 t10
    else none
   else none
noncomputable def jgI:Sig Unit:=⟨[.borrow .str false],[true,false],λvals ext k=>av vals .str λs vals=>nl vals<|nl ext<|j4f s (λ(r0:qG) (r1:Bool)=>k [⟨y14,true,r0,[.O,.O]⟩,⟨.bool,false,r1,[]⟩] [] [])⟩
theorem jok (s:qB) (a_s:Bool) (t_s:List Tag) (k:qK):Z6X j3Q [j16,j1E,j2K,j5S,jbZ] (.t .o (.t .o (.t .o (.t .o (.t .o (.t .o (.x 4))))))) false Tryz.f222 [.borrow .str false] [true,false] [⟨.str,a_s,s,t_s⟩] [] k=j4f s (λ(r0:qG) (r1:Bool)=>k [⟨y14,true,r0,[.O,.O]⟩,⟨.bool,false,r1,[]⟩] [] []):=by kernel_rfl
theorem jgk:Z1k Tryz.prog 222 jgI:=Z8N (Γ:=j3Q) (X:=[j16,j1E,j2K,j5S,jbZ]) (ht:=(.t .o (.t .o (.t .o (.t .o (.t .o (.t .o (.x 4)))))))) (fz:=false) (c:=j0A) follows j00 (Z8C j0S (Z8C j2O (Z8C j3O (Z8C j1p Z8W)))) (Z1A.mk trivial ((Z1A.mk trivial ((Z1A.mk trivial ((Z1A.mk trivial ((Z1A.mk trivial ((Z1A.mk trivial (Z1A.x_mk (λW0 M hnp=>jmi (W0:=W0) (M:=M) hnp))))))))))))) Tryz.func222 (by kernel_rfl) (by kernel_rfl) (by decide) (by
 intro vals ext k r h
 obtain ⟨s,a_s,t_s,vals,rfl,h1⟩:=Z8T h
 obtain ⟨rfl,h2⟩:=Z90 h1
 obtain ⟨rfl,h3⟩:=Z90 h2
 exact (jok s a_s t_s k).trans h3)
noncomputable def j7U:Code:=(Tryz.f218.body).getD .skip
noncomputable def jdq:Env Unit:=⟨tys,[(253,jaM)],0⟩
noncomputable def j53 (t7:List qV) (t8:Int) (out:qL) (t9:Int) (rec:qL->Int->Res) (k0:qL->Res):Res:=
 bif decide (t9<t8) then
  bif inb t9 (List.length t7) then
   j5M (nth (0,0,eS) t7 t9) λ(r:qB)=>
    bif lim ((List.length out)+1) then
     rec (out++[r]) (Z8g (t9+1))
    else none
  else none
 else
  k0 out
noncomputable def j7u (t7:List qV) (t8:Int):(qL×Int)->(qL×Int->Res)->((qL->Res))->Res:=λv rec q=>j53 t7 t8 v.1 v.2 (λout t9=>rec (out,t9)) q
noncomputable def jcZ (t7:List qV) (t8:Int) (n:Nat) (out:qL) (t9:Int) (k0:qL->Res):Res:=Z10 (j7u t7 t8) n (out,t9) (k0)
noncomputable def j8M:Z1l Unit:=λσ k=>rdN σ 20<|rdV σ 3 y9 false [.O] λout=>rdV σ 7 y3 false [.S] λt7=>rdV σ 8 (.int .i64) false [] λt8=>rdV σ 9 (.int .i64) false [] λt9=>jcZ t7 t8 Z0Y out t9 (λ(out1:qL)=>k (.exit 0) (mkS 20 20 [(3,.val ⟨y9,false,out1,[.O]⟩)] []))
theorem jlL (t7:List qV) (t8:Int) (n:Nat) (v:qL×Int) (k:Z6G Unit):Z3X (Z0R jdq [] .o (pl (pl (pr (pl (pr (pr j7U))))))) (λσ=>σ.forget [3,7,8,9] []) (Z8a ([],[]) [(0,[3],[])] ([],[])) n (mkS 20 20 [(3,.val ⟨y9,false,v.1,[.O]⟩),(7,.val ⟨y3,false,t7,[.S]⟩),(8,.val ⟨(.int .i64),false,t8,[]⟩),(9,.val ⟨(.int .i64),false,v.2,[]⟩)] []) k=Z10 (j7u t7 t8) n v ((λ(k:Z6G Unit)=>(((λ(out1:qL)=>k (.exit 0) (mkS 20 20 [(3,.val ⟨y9,false,out1,[.O]⟩)] []))):(qL->Res))) k):=Z80 (λv:qL×Int=>(mkS 20 20 [(3,.val ⟨y9,false,v.1,[.O]⟩),(7,.val ⟨y3,false,t7,[.S]⟩),(8,.val ⟨(.int .i64),false,t8,[]⟩),(9,.val ⟨(.int .i64),false,v.2,[]⟩)] [])) (j7u t7 t8) (λ(k:Z6G Unit)=>(((λ(out1:qL)=>k (.exit 0) (mkS 20 20 [(3,.val ⟨y9,false,out1,[.O]⟩)] []))):(qL->Res))) (λv rec k=>by kernel_rfl) n v k
theorem jmy {W0:Base} {M:Nat->Prop} (hnp:W0.np<=0):Z1W Tryz.prog W0 M (pl (pr (pl (pr (pr j7U))))) j8M:=show Z1W Tryz.prog W0 M (Code.loop (pl (pl (pr (pl (pr (pr j7U))))))) j8M from Z8X (Z6Q follows j00 (Z7K (Z8C j2h Z8W)) hnp [] (pl (pl (pr (pl (pr (pr j7U)))))) .o trivial) (ks:=[3,7,8,9]) (bs:=[]) (fX:=(Z8a ([],[]) [(0,[3],[])] ([],[]))) (Z8U _ _ _) Z0Y (by
 intro σ k r h
 obtain ⟨hn,h1⟩:=Z8G h
 obtain ⟨out,hs3,h2⟩:=Z8J h1
 obtain ⟨t7,hs7,h3⟩:=Z8J h2
 obtain ⟨t8,hs8,h4⟩:=Z8J h3
 obtain ⟨t9,hs9,h5⟩:=Z8J h4
 refine ⟨_,?_,(jlL t7 t8 Z0Y (out,t9) k).trans h5⟩
 exact Z9e hn ⟨hs3,hs7,hs8,hs9,trivial⟩ trivial)
noncomputable def j2d (l:List qV) (k0:qL->Res):Res:=
 jcZ l (nI (List.length l)) Z0Y [] 0 λ(out:qL)=>
  k0 out
noncomputable def jgO:Sig Unit:=⟨[.borrow y3 false],[false],λvals ext k=>av vals y3 λl vals=>nl vals<|nl ext<|j2d l (λ(r0:qL)=>k [⟨y9,false,r0,[.O]⟩] [] [])⟩
theorem jou (l:List qV) (a_l:Bool) (t_l:List Tag) (k:qK):Z6X jdq [j8M] (.t .o (.t .o (.t (.t .o (.t (.x 0) .o)) .o))) false Tryz.f218 [.borrow y3 false] [false] [⟨y3,a_l,l,t_l⟩] [] k=j2d l (λ(r0:qL)=>k [⟨y9,false,r0,[.O]⟩] [] []):=by kernel_rfl
theorem jgn:Z1k Tryz.prog 218 jgO:=Z8N (Γ:=jdq) (X:=[j8M]) (ht:=(.t .o (.t .o (.t (.t .o (.t (.x 0) .o)) .o)))) (fz:=false) (c:=j7U) follows j00 (Z8C j2h Z8W) (Z1A.mk trivial ((Z1A.mk trivial ((Z1A.mk ((Z1A.mk trivial ((Z1A.mk (Z1A.x_mk (λW0 M hnp=>jmy (W0:=W0) (M:=M) hnp)) trivial)))) trivial))))) Tryz.func218 (by kernel_rfl) (by kernel_rfl) (by decide) (by
 intro vals ext k r h
 obtain ⟨l,a_l,t_l,vals,rfl,h1⟩:=Z8T h
 obtain ⟨rfl,h2⟩:=Z90 h1
 obtain ⟨rfl,h3⟩:=Z90 h2
 exact (jou l a_l t_l k).trans h3)
noncomputable def j9t:Code:=(Tryz.f176.body).getD .skip
noncomputable def jcp:Env Unit:=⟨tys,[(13,jeg),(217,jdE),(218,jgO),(219,jdB)],0⟩
noncomputable def j8t (s:qS) (k0:qL->Res):Res:=
 Z6L
  (j2d s.2.2.1 λ(r:qL)=>
   bif lim (2+(List.length r)) then
    k0 ([j0J,s.2.1]++r)
   else none)
  (j2d s.2.2.1 λ(r1:qL)=>
   bif lim (2+(List.length r1)) then
    k0 ([j0J,s.2.1]++r1)
   else none)
noncomputable def jbb:Z1l Unit:=λσ k=>rdN σ 56<|rdT σ 1 (.ptr ⟨true,1,[]⟩)<|rdB σ 1 y18 [.S,.S,.S,.S] λa s=>j8t s (λ(out:qL)=>k .normal (mkS 56 56 [(1,.ptr ⟨true,1,[]⟩),(3,.val ⟨y9,false,out,[.O]⟩)] [(1,⟨y18,a,s,[.S,.S,.S,.S]⟩)]))
theorem jk1 (a:Bool) (s:qS) (k:Z6G Unit):Z0R jcp [] .o (pl (pl (pr (pr (pr (pl (pr (pl (pr (pr j9t)))))))))) (mkS 56 56 [(1,.ptr ⟨true,1,[]⟩)] [(1,⟨y18,a,s,[.S,.S,.S,.S]⟩)]) (λe σ=>k e ((Z8a ([1,3],[1]) [] ([],[])) e σ))=j8t s (λ(out:qL)=>k .normal (mkS 56 56 [(1,.ptr ⟨true,1,[]⟩),(3,.val ⟨y9,false,out,[.O]⟩)] [(1,⟨y18,a,s,[.S,.S,.S,.S]⟩)])):=by kernel_rfl
theorem jkt {W0:Base} {M:Nat->Prop} (hnp:W0.np<=0):Z1W Tryz.prog W0 M (pl (pl (pr (pr (pr (pl (pr (pl (pr (pr j9t)))))))))) jbb:=Z91 (Z6Q follows j00 (Z7K (Z8C jbp (Z8C jd9 (Z8C jgn (Z8C j2O Z8W))))) hnp [] ((pl (pl (pr (pr (pr (pl (pr (pl (pr (pr j9t))))))))))) .o trivial) (fg:=(Z8a ([1,3],[1]) [] ([],[]))) (Z8U _ _ _) (by
 intro σ k r h
 obtain ⟨hn,h1⟩:=Z8G h
 obtain ⟨hs1,h2⟩:=Z8H h1
 obtain ⟨a,s,hb1,h3⟩:=Z8D h2
 refine ⟨_,?_,(jk1 a s k).trans h3⟩
 exact Z9e hn ⟨hs1,trivial⟩ ⟨hb1,trivial⟩)
noncomputable def j6i (s:qS) (k0:qB->Res):Res:=
 j9g s λ(r:Bool)=>
  bif !r then
   k0 eS
  else
   bif (s.1==1) then
    Z6L
     (j2d s.2.2.2.1 λ(r1:qL)=>
      bif lim (2+(List.length r1)) then
       j1v ([j10,s.2.1]++r1) λ(r2:qB)=>
        k0 r2
      else none)
     (j2d s.2.2.2.1 λ(r3:qL)=>
      bif lim (2+(List.length r3)) then
       j1v ([j10,s.2.1]++r3) λ(r4:qB)=>
        k0 r4
      else none)
   else
    bif (s.1==2) then
     j8t s λ(out:qL)=>
      bif lim ((List.length out)+1) then
       j2d s.2.2.2.1 λ(r5:qL)=>
        bif lim ((List.length (out++[j1I]))+(List.length r5)) then
         j1v ((out++[j1I])++r5) λ(r6:qB)=>
          k0 r6
        else none
      else none
    else
     bif (s.1==3) then
      Z6L
       (j2d s.2.2.1 λ(r7:qL)=>
        bif lim (2+(List.length r7)) then
         j1v ([j0Z,s.2.1]++r7) λ(r8:qB)=>
          k0 r8
        else none)
       (j2d s.2.2.1 λ(r9:qL)=>
        bif lim (2+(List.length r9)) then
         j1v ([j0Z,s.2.1]++r9) λ(r10:qB)=>
          k0 r10
        else none)
     else
      bif (s.1==4) then
       bif lim (6+(ByteArray.size s.2.1)) then
        k0 (jht++s.2.1)
       else none
      else
       j87 s.2.2.2.2 λ(r11:qB)=>
        k0 r11
noncomputable def jcK:Sig Unit:=⟨[.look y18 true],[false],λvals ext k=>av vals y18 λs vals=>nl vals<|nl ext<|j6i s (λ(r0:qB)=>k [⟨.str,false,r0,[]⟩] [] [])⟩
theorem jmX (s:qS) (a_s:Bool) (t_s:List Tag) (k:qK):Z6X jcp [jbb] (.t .o (.t .o (.t (.t .o (.t (.t .o (.t .o (.t .o (.t (.t (.x 0) .o) .o)))) .o)) .o))) false Tryz.f176 [.look y18 true] [false] [⟨y18,a_s,s,t_s⟩] [] k=j6i s (λ(r0:qB)=>k [⟨.str,false,r0,[]⟩] [] []):=by kernel_rfl
theorem j9r:Z1k Tryz.prog 176 jcK:=Z8N (Γ:=jcp) (X:=[jbb]) (ht:=(.t .o (.t .o (.t (.t .o (.t (.t .o (.t .o (.t .o (.t (.t (.x 0) .o) .o)))) .o)) .o)))) (fz:=false) (c:=j9t) follows j00 (Z8C jbp (Z8C jd9 (Z8C jgn (Z8C j2O Z8W)))) (Z1A.mk trivial ((Z1A.mk trivial ((Z1A.mk ((Z1A.mk trivial ((Z1A.mk ((Z1A.mk trivial ((Z1A.mk trivial ((Z1A.mk trivial ((Z1A.mk ((Z1A.mk (Z1A.x_mk (λW0 M hnp=>jkt (W0:=W0) (M:=M) hnp)) trivial)) trivial)))))))) trivial)))) trivial))))) Tryz.func176 (by kernel_rfl) (by kernel_rfl) (by decide) (by
 intro vals ext k r h
 obtain ⟨s,a_s,t_s,vals,rfl,h1⟩:=Z8T h
 obtain ⟨rfl,h2⟩:=Z90 h1
 obtain ⟨rfl,h3⟩:=Z90 h2
 exact (jmX s a_s t_s k).trans h3)
noncomputable def j9u:Code:=(Tryz.f178.body).getD .skip
noncomputable def jcq:Env Unit:=⟨tys,[(109,jaj),(176,jcK),(220,jjm),(221,jgN),(222,jgI)],0⟩
noncomputable def j8v (s:qB) (rest:qL) (to:Int) (t25:qB) (x:qS) (k0:qS->Res):Res:=
 bif sEq t25 j10 then
  j4j rest λ(r:List qV)=>
   k0 (1,x.2.1,x.2.2.1,r,x.2.2.2.2)
 else
  bif sEq t25 j0J then
   bif Z6R 0 to (List.length rest) then
    j4j (sub rest 0 to) λ(r1:List qV)=>
     bif decide (to<(nI (List.length rest))) then
      bif Z6R (Z8g (to+1)) (nI (List.length rest)) (List.length rest) then
       j4j (sub rest (Z8g (to+1)) (nI (List.length rest))) λ(r2:List qV)=>
        k0 (2,x.2.1,r1,r2,x.2.2.2.2)
      else none
     else
      k0 (2,x.2.1,r1,x.2.2.2)
   else none
  else
   bif sEq t25 j0Z then
    j4j rest λ(r3:List qV)=>
     k0 (3,x.2.1,r3,x.2.2.2)
   else
    bif sEq t25 j21 then
     k0 (4,x.2)
    else
     j4f s λ(r4:qG) (r5:Bool)=>
      k0 (5,x.2.1,x.2.2.1,x.2.2.2.1,r4)
noncomputable def jbd:Z1l Unit:=λσ k=>rdN σ 74<|rdV σ 0 .str false [] λs=>rdT σ 2 (.ptr ⟨true,2,[]⟩)<|rdT σ 5 (.ptr ⟨true,5,[]⟩)<|rdV σ 6 y9 false [.S] λrest=>rdV σ 7 (.int .i64) false [] λto=>rdV σ 25 .str false [] λt25=>rdB σ 2 y18 [.O,.O,.O,.O] λa t2=>rdB σ 5 y18 [.O,.O,.O,.O] λa1 x=>j8v s rest to t25 x (λ(x1:qS)=>k .normal (mkS 74 74 [(0,.val ⟨.str,false,s,[]⟩),(2,.ptr ⟨true,2,[]⟩),(5,.ptr ⟨true,5,[]⟩)] [(2,⟨y18,a,t2,[.O,.O,.O,.O]⟩),(5,⟨y18,a1,x1,[.O,.O,.O,.O]⟩)]))
theorem jk6 (s:qB) (rest:qL) (to:Int) (t25:qB) (a:Bool) (t2:qS) (a1:Bool) (x:qS) (k:Z6G Unit):Z0R jcq [] .o (pr (pl (pr (pr (pr (pr (pr (pr (pr j9u))))))))) (mkS 74 74 [(0,.val ⟨.str,false,s,[]⟩),(2,.ptr ⟨true,2,[]⟩),(5,.ptr ⟨true,5,[]⟩),(6,.val ⟨y9,false,rest,[.S]⟩),(7,.val ⟨(.int .i64),false,to,[]⟩),(25,.val ⟨.str,false,t25,[]⟩)] [(2,⟨y18,a,t2,[.O,.O,.O,.O]⟩),(5,⟨y18,a1,x,[.O,.O,.O,.O]⟩)]) (λe σ=>k e ((Z8a ([0,2,5],[2,5]) [] ([],[])) e σ))=j8v s rest to t25 x (λ(x1:qS)=>k .normal (mkS 74 74 [(0,.val ⟨.str,false,s,[]⟩),(2,.ptr ⟨true,2,[]⟩),(5,.ptr ⟨true,5,[]⟩)] [(2,⟨y18,a,t2,[.O,.O,.O,.O]⟩),(5,⟨y18,a1,x1,[.O,.O,.O,.O]⟩)])):=by kernel_rfl
theorem jky {W0:Base} {M:Nat->Prop} (hnp:W0.np<=0):Z1W Tryz.prog W0 M (pr (pl (pr (pr (pr (pr (pr (pr (pr j9u))))))))) jbd:=Z91 (Z6Q follows j00 (Z7K (Z8C j0S (Z8C j9r (Z8C jii (Z8C jgm (Z8C jgk Z8W)))))) hnp [] ((pr (pl (pr (pr (pr (pr (pr (pr (pr j9u)))))))))) .o trivial) (fg:=(Z8a ([0,2,5],[2,5]) [] ([],[]))) (Z8U _ _ _) (by
 intro σ k r h
 obtain ⟨hn,h1⟩:=Z8G h
 obtain ⟨s,hs0,h2⟩:=Z8J h1
 obtain ⟨hs2,h3⟩:=Z8H h2
 obtain ⟨hs5,h4⟩:=Z8H h3
 obtain ⟨rest,hs6,h5⟩:=Z8J h4
 obtain ⟨to,hs7,h6⟩:=Z8J h5
 obtain ⟨t25,hs25,h7⟩:=Z8J h6
 obtain ⟨a,t2,hb2,h8⟩:=Z8D h7
 obtain ⟨a1,x,hb5,h9⟩:=Z8D h8
 refine ⟨_,?_,(jk6 s rest to t25 a t2 a1 x k).trans h9⟩
 exact Z9e hn ⟨hs0,hs2,hs5,hs6,hs7,hs25,trivial⟩ ⟨hb2,hb5,trivial⟩)
noncomputable def j3D (s:qB) (k0:qS->Bool->Res):Res:=
 j6X s λ(r:qL)=>
  bif decide ((nI (List.length r))<2) then
   k0 (0,eS,[],[],0,eS,[],[],eS,eS) false
  else
   bif inb 1 (List.length r) then
    bif Z6R 2 (nI (List.length r)) (List.length r) then
     jcY (sub r 2 (nI (List.length r))) λ(r1:Int)=>
      bif inb 0 (List.length r) then
       j8v s (sub r 2 (nI (List.length r))) r1 (nth eS r 0) (0,nth eS r 1,[],[],0,eS,[],[],eS,eS) λ(x:qS)=>
        j6i x λ(r2:qB)=>
         bif sNe r2 s then
          k0 (0,eS,[],[],0,eS,[],[],eS,eS) false
         else
          k0 x true
      else none
    else none
   else none
noncomputable def jfW:Sig Unit:=⟨[.borrow .str false],[true,false],λvals ext k=>av vals .str λs vals=>nl vals<|nl ext<|j3D s (λ(r0:qS) (r1:Bool)=>k [⟨y18,true,r0,[.O,.O,.O,.O]⟩,⟨.bool,false,r1,[]⟩] [] [])⟩
theorem jmZ (s:qB) (a_s:Bool) (t_s:List Tag) (k:qK):Z6X jcq [jbd] (.t .o (.t .o (.t .o (.t .o (.t .o (.t .o (.t .o (.t (.t .o (.x 0)) .o)))))))) false Tryz.f178 [.borrow .str false] [true,false] [⟨.str,a_s,s,t_s⟩] [] k=j3D s (λ(r0:qS) (r1:Bool)=>k [⟨y18,true,r0,[.O,.O,.O,.O]⟩,⟨.bool,false,r1,[]⟩] [] []):=by kernel_rfl
theorem jcc:Z1k Tryz.prog 178 jfW:=Z8N (Γ:=jcq) (X:=[jbd]) (ht:=(.t .o (.t .o (.t .o (.t .o (.t .o (.t .o (.t .o (.t (.t .o (.x 0)) .o))))))))) (fz:=false) (c:=j9u) follows j00 (Z8C j0S (Z8C j9r (Z8C jii (Z8C jgm (Z8C jgk Z8W))))) (Z1A.mk trivial ((Z1A.mk trivial ((Z1A.mk trivial ((Z1A.mk trivial ((Z1A.mk trivial ((Z1A.mk trivial ((Z1A.mk trivial ((Z1A.mk ((Z1A.mk trivial (Z1A.x_mk (λW0 M hnp=>jky (W0:=W0) (M:=M) hnp)))) trivial))))))))))))))) Tryz.func178 (by kernel_rfl) (by kernel_rfl) (by decide) (by
 intro vals ext k r h
 obtain ⟨s,a_s,t_s,vals,rfl,h1⟩:=Z8T h
 obtain ⟨rfl,h2⟩:=Z90 h1
 obtain ⟨rfl,h3⟩:=Z90 h2
 exact (jmZ s a_s t_s k).trans h3)
noncomputable def jce:Code:=(Tryz.f124.body).getD .skip
noncomputable def jh2:Env Unit:=⟨tys,[],0⟩
noncomputable def j6a (s:qB) (by_:Int) (out:qL) (from_:Int) (i:Int) (rec:qL->Int->Int->Res) (k0:qL->Int->Res):Res:=
 bif decide (i<(nI (ByteArray.size s))) then
  bif inb i (ByteArray.size s) then
   bif ((bt s i)==by_) then
    bif Z6R from_ i (ByteArray.size s) then
     bif lim ((List.length out)+1) then
      rec (out++[Z9k s from_ i]) (Z8g (i+1)) (Z8g (i+1))
     else none
    else none
   else
    rec out from_ (Z8g (i+1))
  else none
 else
  k0 out from_
noncomputable def j6b (s:qB) (by_:Int):(qL×Int×Int)->(qL×Int×Int->Res)->((qL->Int->Res))->Res:=λv rec q=>j6a s by_ v.1 v.2.1 v.2.2 (λout from_ i=>rec (out,from_,i)) q
noncomputable def jga (s:qB) (by_:Int) (n:Nat) (out:qL) (from_:Int) (i:Int) (k0:qL->Int->Res):Res:=Z10 (j6b s by_) n (out,from_,i) (k0)
noncomputable def jd3:Z1l Unit:=λσ k=>rdN σ 35<|rdV σ 0 .str false [] λs=>rdV σ 1 (.int .u8) false [] λby_=>rdV σ 5 y9 false [.O] λout=>rdV σ 6 (.int .i64) false [] λfrom_=>rdV σ 7 (.int .i64) false [] λi=>jga s by_ Z0Y out from_ i (λ(out1:qL) (from_1:Int)=>k (.exit 0) (mkS 35 35 [(0,.val ⟨.str,false,s,[]⟩),(5,.val ⟨y9,false,out1,[.O]⟩),(6,.val ⟨(.int .i64),false,from_1,[]⟩)] []))
theorem jqP (s:qB) (by_:Int) (n:Nat) (v:qL×Int×Int) (k:Z6G Unit):Z3X (Z0R jh2 [] .o (pl (pl (pr (pl (pr (pr (pr jce)))))))) (λσ=>σ.forget [0,1,5,6,7] []) (Z8a ([],[]) [(0,[0,5,6],[])] ([],[])) n (mkS 35 35 [(0,.val ⟨.str,false,s,[]⟩),(1,.val ⟨(.int .u8),false,by_,[]⟩),(5,.val ⟨y9,false,v.1,[.O]⟩),(6,.val ⟨(.int .i64),false,v.2.1,[]⟩),(7,.val ⟨(.int .i64),false,v.2.2,[]⟩)] []) k=Z10 (j6b s by_) n v ((λ(k:Z6G Unit)=>(((λ(out1:qL) (from_1:Int)=>k (.exit 0) (mkS 35 35 [(0,.val ⟨.str,false,s,[]⟩),(5,.val ⟨y9,false,out1,[.O]⟩),(6,.val ⟨(.int .i64),false,from_1,[]⟩)] []))):(qL->Int->Res))) k):=Z80 (λv:qL×Int×Int=>(mkS 35 35 [(0,.val ⟨.str,false,s,[]⟩),(1,.val ⟨(.int .u8),false,by_,[]⟩),(5,.val ⟨y9,false,v.1,[.O]⟩),(6,.val ⟨(.int .i64),false,v.2.1,[]⟩),(7,.val ⟨(.int .i64),false,v.2.2,[]⟩)] [])) (j6b s by_) (λ(k:Z6G Unit)=>(((λ(out1:qL) (from_1:Int)=>k (.exit 0) (mkS 35 35 [(0,.val ⟨.str,false,s,[]⟩),(5,.val ⟨y9,false,out1,[.O]⟩),(6,.val ⟨(.int .i64),false,from_1,[]⟩)] []))):(qL->Int->Res))) (λv rec k=>by kernel_rfl) n v k
theorem jr1 {W0:Base} {M:Nat->Prop} (hnp:W0.np<=0):Z1W Tryz.prog W0 M (pl (pr (pl (pr (pr (pr jce)))))) jd3:=show Z1W Tryz.prog W0 M (Code.loop (pl (pl (pr (pl (pr (pr (pr jce)))))))) jd3 from Z8X (Z6Q follows j00 (Z7K Z8W) hnp [] (pl (pl (pr (pl (pr (pr (pr jce))))))) .o trivial) (ks:=[0,1,5,6,7]) (bs:=[]) (fX:=(Z8a ([],[]) [(0,[0,5,6],[])] ([],[]))) (Z8U _ _ _) Z0Y (by
 intro σ k r h
 obtain ⟨hn,h1⟩:=Z8G h
 obtain ⟨s,hs0,h2⟩:=Z8J h1
 obtain ⟨by_,hs1,h3⟩:=Z8J h2
 obtain ⟨out,hs5,h4⟩:=Z8J h3
 obtain ⟨from_,hs6,h5⟩:=Z8J h4
 obtain ⟨i,hs7,h6⟩:=Z8J h5
 refine ⟨_,?_,(jqP s by_ Z0Y (out,from_,i) k).trans h6⟩
 exact Z9e hn ⟨hs0,hs1,hs5,hs6,hs7,trivial⟩ trivial)
noncomputable def jds (s:qB) (by_:Int) (k0:qL->Res):Res:=
 jga s by_ Z0Y [] 0 0 λ(out:qL) (from_:Int)=>
  bif Z6R from_ (nI (ByteArray.size s)) (ByteArray.size s) then
   bif lim ((List.length out)+1) then
    k0 (out++[Z9k s from_ (nI (ByteArray.size s))])
   else none
  else none
noncomputable def jhh:Sig Unit:=⟨[.borrow .str false,.borrow (.int .u8) false],[false],λvals ext k=>av vals .str λs vals=>av vals (.int .u8) λby_ vals=>nl vals<|nl ext<|jds s by_ (λ(r0:qL)=>k [⟨y9,false,r0,[.S]⟩] [] [])⟩
theorem jrM (s:qB) (a_s:Bool) (t_s:List Tag) (by_:Int) (a_by_:Bool) (t_by_:List Tag) (k:qK):Z6X jh2 [jd3] (.t .o (.t .o (.t .o (.t (.t .o (.t (.x 0) .o)) .o)))) true Tryz.f124 [.borrow .str false,.borrow (.int .u8) false] [false] [⟨.str,a_s,s,t_s⟩,⟨(.int .u8),a_by_,by_,t_by_⟩] [] k=jds s by_ (λ(r0:qL)=>k [⟨y9,false,r0,[.S]⟩] [] []):=by kernel_rfl
theorem jgT:Z1k Tryz.prog 124 jhh:=Z8N (Γ:=jh2) (X:=[jd3]) (ht:=(.t .o (.t .o (.t .o (.t (.t .o (.t (.x 0) .o)) .o))))) (fz:=true) (c:=jce) follows j00 Z8W (Z1A.mk trivial ((Z1A.mk trivial ((Z1A.mk trivial ((Z1A.mk ((Z1A.mk trivial ((Z1A.mk (Z1A.x_mk (λW0 M hnp=>jr1 (W0:=W0) (M:=M) hnp)) trivial)))) trivial))))))) Tryz.func124 (by kernel_rfl) (by kernel_rfl) (by decide) (by
 intro vals ext k r h
 obtain ⟨s,a_s,t_s,vals,rfl,h1⟩:=Z8T h
 obtain ⟨by_,a_by_,t_by_,vals,rfl,h2⟩:=Z8T h1
 obtain ⟨rfl,h3⟩:=Z90 h2
 obtain ⟨rfl,h4⟩:=Z90 h3
 exact (jrM s a_s t_s by_ a_by_ t_by_ k).trans h4)
noncomputable def jqB:Code:=(Tryz.f79.body).getD .skip
noncomputable def jiE:Env Unit:=⟨tys,[(124,jhh)],0⟩
noncomputable def j6G (s:qB) (k0:qL->Res):Res:=
 jds s 32 λ(r:qL)=>
  k0 r
noncomputable def jah:Sig Unit:=⟨[.borrow .str false],[false],λvals ext k=>av vals .str λs vals=>nl vals<|nl ext<|j6G s (λ(r0:qL)=>k [⟨y9,false,r0,[.S]⟩] [] [])⟩
theorem jqe (s:qB) (a_s:Bool) (t_s:List Tag) (k:qK):Z6X jiE [] .o false Tryz.f79 [.borrow .str false] [false] [⟨.str,a_s,s,t_s⟩] [] k=j6G s (λ(r0:qL)=>k [⟨y9,false,r0,[.S]⟩] [] []):=by kernel_rfl
theorem j22:Z1k Tryz.prog 79 jah:=Z8N (Γ:=jiE) (X:=[]) (ht:= .o) (fz:=false) (c:=jqB) follows j00 (Z8C jgT Z8W) trivial Tryz.func79 (by kernel_rfl) (by kernel_rfl) (by decide) (by
 intro vals ext k r h
 obtain ⟨s,a_s,t_s,vals,rfl,h1⟩:=Z8T h
 obtain ⟨rfl,h2⟩:=Z90 h1
 obtain ⟨rfl,h3⟩:=Z90 h2
 exact (jqe s a_s t_s k).trans h3)
noncomputable def ja2:Code:=(Tryz.f65.body).getD .skip
noncomputable def jeL:Env Unit:=⟨tys,[],0⟩
noncomputable def j6I (t6:qL) (t7:Int) (s:qB) (t8:Int) (rec:qB->Int->Res) (k0:qB->Res):Res:=
 bif decide (t8<t7) then
  bif inb t8 (List.length t6) then
   bif decide (t8>0) then
    bif lim ((ByteArray.size s)+1) then
     bif lim ((ByteArray.size (s++j0e))+(ByteArray.size (nth eS t6 t8))) then
      rec ((s++j0e)++(nth eS t6 t8)) (Z8g (t8+1))
     else none
    else none
   else
    bif lim ((ByteArray.size s)+(ByteArray.size (nth eS t6 t8))) then
     rec (s++(nth eS t6 t8)) (Z8g (t8+1))
    else none
  else none
 else
  k0 s
noncomputable def j9G (t6:qL) (t7:Int):(qB×Int)->(qB×Int->Res)->((qB->Res))->Res:=λv rec q=>j6I t6 t7 v.1 v.2 (λs t8=>rec (s,t8)) q
noncomputable def jeb (t6:qL) (t7:Int) (n:Nat) (s:qB) (t8:Int) (k0:qB->Res):Res:=Z10 (j9G t6 t7) n (s,t8) (k0)
noncomputable def jaV:Z1l Unit:=λσ k=>rdN σ 22<|rdV σ 3 .str false [] λs=>rdV σ 6 y9 false [.S] λt6=>rdV σ 7 (.int .i64) false [] λt7=>rdV σ 8 (.int .i64) false [] λt8=>jeb t6 t7 Z0Y s t8 (λ(s1:qB)=>k (.exit 0) (mkS 22 22 [(3,.val ⟨.str,false,s1,[]⟩)] []))
theorem joJ (t6:qL) (t7:Int) (n:Nat) (v:qB×Int) (k:Z6G Unit):Z3X (Z0R jeL [] .o (pl (pl (pr (pl (pr (pr ja2))))))) (λσ=>σ.forget [3,6,7,8] []) (Z8a ([],[]) [(0,[3],[])] ([],[])) n (mkS 22 22 [(3,.val ⟨.str,false,v.1,[]⟩),(6,.val ⟨y9,false,t6,[.S]⟩),(7,.val ⟨(.int .i64),false,t7,[]⟩),(8,.val ⟨(.int .i64),false,v.2,[]⟩)] []) k=Z10 (j9G t6 t7) n v ((λ(k:Z6G Unit)=>(((λ(s1:qB)=>k (.exit 0) (mkS 22 22 [(3,.val ⟨.str,false,s1,[]⟩)] []))):(qB->Res))) k):=Z80 (λv:qB×Int=>(mkS 22 22 [(3,.val ⟨.str,false,v.1,[]⟩),(6,.val ⟨y9,false,t6,[.S]⟩),(7,.val ⟨(.int .i64),false,t7,[]⟩),(8,.val ⟨(.int .i64),false,v.2,[]⟩)] [])) (j9G t6 t7) (λ(k:Z6G Unit)=>(((λ(s1:qB)=>k (.exit 0) (mkS 22 22 [(3,.val ⟨.str,false,s1,[]⟩)] []))):(qB->Res))) (λv rec k=>by kernel_rfl) n v k
theorem joV {W0:Base} {M:Nat->Prop} (hnp:W0.np<=0):Z1W Tryz.prog W0 M (pl (pr (pl (pr (pr ja2))))) jaV:=show Z1W Tryz.prog W0 M (Code.loop (pl (pl (pr (pl (pr (pr ja2))))))) jaV from Z8X (Z6Q follows j00 (Z7K Z8W) hnp [] (pl (pl (pr (pl (pr (pr ja2)))))) .o trivial) (ks:=[3,6,7,8]) (bs:=[]) (fX:=(Z8a ([],[]) [(0,[3],[])] ([],[]))) (Z8U _ _ _) Z0Y (by
 intro σ k r h
 obtain ⟨hn,h1⟩:=Z8G h
 obtain ⟨s,hs3,h2⟩:=Z8J h1
 obtain ⟨t6,hs6,h3⟩:=Z8J h2
 obtain ⟨t7,hs7,h4⟩:=Z8J h3
 obtain ⟨t8,hs8,h5⟩:=Z8J h4
 refine ⟨_,?_,(joJ t6 t7 Z0Y (s,t8) k).trans h5⟩
 exact Z9e hn ⟨hs3,hs6,hs7,hs8,trivial⟩ trivial)
noncomputable def j1h (l:qL) (k0:qB->Res):Res:=
 jeb l (nI (List.length l)) Z0Y eS 0 λ(s:qB)=>
  k0 s
noncomputable def jai:Sig Unit:=⟨[.look y9 false],[false],λvals ext k=>av vals y9 λl vals=>nl vals<|nl ext<|j1h l (λ(r0:qB)=>k [⟨.str,false,r0,[]⟩] [] [])⟩
theorem jqg (l:qL) (a_l:Bool) (t_l:List Tag) (k:qK):Z6X jeL [jaV] (.t .o (.t .o (.t (.t .o (.t (.x 0) .o)) .o))) false Tryz.f65 [.look y9 false] [false] [⟨y9,a_l,l,t_l⟩] [] k=j1h l (λ(r0:qB)=>k [⟨.str,false,r0,[]⟩] [] []):=by kernel_rfl
theorem j7I:Z1k Tryz.prog 65 jai:=Z8N (Γ:=jeL) (X:=[jaV]) (ht:=(.t .o (.t .o (.t (.t .o (.t (.x 0) .o)) .o)))) (fz:=false) (c:=ja2) follows j00 Z8W (Z1A.mk trivial ((Z1A.mk trivial ((Z1A.mk ((Z1A.mk trivial ((Z1A.mk (Z1A.x_mk (λW0 M hnp=>joV (W0:=W0) (M:=M) hnp)) trivial)))) trivial))))) Tryz.func65 (by kernel_rfl) (by kernel_rfl) (by decide) (by
 intro vals ext k r h
 obtain ⟨l,a_l,t_l,vals,rfl,h1⟩:=Z8T h
 obtain ⟨rfl,h2⟩:=Z90 h1
 obtain ⟨rfl,h3⟩:=Z90 h2
 exact (jqg l a_l t_l k).trans h3)
noncomputable def j24:Code:=(Tryz.f162.body).getD .skip
noncomputable def ja5:Env Unit:=⟨tys,[(81,j2Y),(163,jdA)],0⟩
noncomputable def j8Y (w:qL) (k0:qC->Res):Res:=
 bif inb 0 (List.length w) then
  bif inb 1 (List.length w) then
   Z6L
    (Z6L
     (j0P [eS,j1m,j2l,j1A] (nth eS w 1) λ(r:Int)=>
      Z6L
       (k0 (nth eS w 0,r,false,false,0,0,eS))
       (k0 (nth eS w 0,r,false,false,0,0,eS)))
     (j0P [eS,j1m,j2l,j1A] (nth eS w 1) λ(r1:Int)=>
      k0 (nth eS w 0,r1,false,false,0,0,eS)))
    (j0P [eS,j1m,j2l,j1A] (nth eS w 1) λ(r2:Int)=>
     k0 (nth eS w 0,r2,false,false,0,0,eS))
  else none
 else none
noncomputable def j3U:Z1l Unit:=λσ k=>rdN σ 47<|rdV σ 0 y9 false [.S] λw=>rdT σ 2 (.ptr ⟨true,2,[]⟩)<|rdB σ 2 y7 [] λa t2=>j8Y w (λ(c:qB×Int×Bool×Bool×Int×Int×qB)=>k .normal (mkS 47 47 [(0,.val ⟨y9,false,w,[.S]⟩),(2,.ptr ⟨true,2,[]⟩),(3,.ptr ⟨true,3,[]⟩)] [(2,⟨y7,a,t2,[]⟩),(3,⟨y7,false,c,[]⟩)]))
theorem joH (w:qL) (a:Bool) (t2:qB×Int×Bool×Bool×Int×Int×qB) (k:Z6G Unit):Z0R ja5 [] .o (pl (pr (pr j24))) (mkS 47 47 [(0,.val ⟨y9,false,w,[.S]⟩),(2,.ptr ⟨true,2,[]⟩)] [(2,⟨y7,a,t2,[]⟩)]) (λe σ=>k e ((Z8a ([0,2,3],[2,3]) [] ([],[])) e σ))=j8Y w (λ(c:qB×Int×Bool×Bool×Int×Int×qB)=>k .normal (mkS 47 47 [(0,.val ⟨y9,false,w,[.S]⟩),(2,.ptr ⟨true,2,[]⟩),(3,.ptr ⟨true,3,[]⟩)] [(2,⟨y7,a,t2,[]⟩),(3,⟨y7,false,c,[]⟩)])):=by kernel_rfl
theorem joT {W0:Base} {M:Nat->Prop} (hnp:W0.np<=0):Z1W Tryz.prog W0 M (pl (pr (pr j24))) j3U:=Z91 (Z6Q follows j00 (Z7K (Z8C j0C (Z8C j5k Z8W))) hnp [] ((pl (pr (pr j24)))) .o trivial) (fg:=(Z8a ([0,2,3],[2,3]) [] ([],[]))) (Z8U _ _ _) (by
 intro σ k r h
 obtain ⟨hn,h1⟩:=Z8G h
 obtain ⟨w,hs0,h2⟩:=Z8J h1
 obtain ⟨hs2,h3⟩:=Z8H h2
 obtain ⟨a,t2,hb2,h4⟩:=Z8D h3
 refine ⟨_,?_,(joH w a t2 k).trans h4⟩
 exact Z9e hn ⟨hs0,hs2,trivial⟩ ⟨hb2,trivial⟩)
noncomputable def jbx (t27:Bool) (c:qB×Int×Bool×Bool×Int×Int×qB) (k0:qC->Res):Res:=
 bif t27 then
  k0 (c.1,c.2.1,true,c.2.2.2)
 else
  k0 c
noncomputable def j8a:Z1l Unit:=λσ k=>rdN σ 47<|rdT σ 2 (.ptr ⟨true,2,[]⟩)<|rdT σ 3 (.ptr ⟨true,3,[]⟩)<|rdV σ 5 .str false [] λt=>rdV σ 20 y9 false [.S] λt20=>rdV σ 21 (.int .i64) false [] λt21=>rdV σ 22 (.int .i64) false [] λt22=>rdV σ 27 .bool false [] λt27=>rdB σ 2 y7 [] λa t2=>rdB σ 3 y7 [] λa1 c=>jbx t27 c (λ(c1:qB×Int×Bool×Bool×Int×Int×qB)=>k .normal (mkS 47 47 [(2,.ptr ⟨true,2,[]⟩),(3,.ptr ⟨true,3,[]⟩),(5,.val ⟨.str,false,t,[]⟩),(20,.val ⟨y9,false,t20,[.S]⟩),(21,.val ⟨(.int .i64),false,t21,[]⟩),(22,.val ⟨(.int .i64),false,t22,[]⟩)] [(2,⟨y7,a,t2,[]⟩),(3,⟨y7,a1,c1,[]⟩)]))
theorem joI (t:qB) (t20:qL) (t21:Int) (t22:Int) (t27:Bool) (a:Bool) (t2:qB×Int×Bool×Bool×Int×Int×qB) (a1:Bool) (c:qB×Int×Bool×Bool×Int×Int×qB) (k:Z6G Unit):Z0R ja5 [j3U] .o (pr (pl (pr (pl (pl (pr (pr (pl (pl (pr (pl (pr (pr (pr j24)))))))))))))) (mkS 47 47 [(2,.ptr ⟨true,2,[]⟩),(3,.ptr ⟨true,3,[]⟩),(5,.val ⟨.str,false,t,[]⟩),(20,.val ⟨y9,false,t20,[.S]⟩),(21,.val ⟨(.int .i64),false,t21,[]⟩),(22,.val ⟨(.int .i64),false,t22,[]⟩),(27,.val ⟨.bool,false,t27,[]⟩)] [(2,⟨y7,a,t2,[]⟩),(3,⟨y7,a1,c,[]⟩)]) (λe σ=>k e ((Z8a ([2,3,5,20,21,22],[2,3]) [] ([],[])) e σ))=jbx t27 c (λ(c1:qB×Int×Bool×Bool×Int×Int×qB)=>k .normal (mkS 47 47 [(2,.ptr ⟨true,2,[]⟩),(3,.ptr ⟨true,3,[]⟩),(5,.val ⟨.str,false,t,[]⟩),(20,.val ⟨y9,false,t20,[.S]⟩),(21,.val ⟨(.int .i64),false,t21,[]⟩),(22,.val ⟨(.int .i64),false,t22,[]⟩)] [(2,⟨y7,a,t2,[]⟩),(3,⟨y7,a1,c1,[]⟩)])):=by kernel_rfl
theorem joU {W0:Base} {M:Nat->Prop} (hnp:W0.np<=0):Z1W Tryz.prog W0 M (pr (pl (pr (pl (pl (pr (pr (pl (pl (pr (pl (pr (pr (pr j24)))))))))))))) j8a:=Z91 (Z6Q follows j00 (Z7K (Z8C j0C (Z8C j5k Z8W))) hnp [j3U] ((pr (pl (pr (pl (pl (pr (pr (pl (pl (pr (pl (pr (pr (pr j24))))))))))))))) .o trivial) (fg:=(Z8a ([2,3,5,20,21,22],[2,3]) [] ([],[]))) (Z8U _ _ _) (by
 intro σ k r h
 obtain ⟨hn,h1⟩:=Z8G h
 obtain ⟨hs2,h2⟩:=Z8H h1
 obtain ⟨hs3,h3⟩:=Z8H h2
 obtain ⟨t,hs5,h4⟩:=Z8J h3
 obtain ⟨t20,hs20,h5⟩:=Z8J h4
 obtain ⟨t21,hs21,h6⟩:=Z8J h5
 obtain ⟨t22,hs22,h7⟩:=Z8J h6
 obtain ⟨t27,hs27,h8⟩:=Z8J h7
 obtain ⟨a,t2,hb2,h9⟩:=Z8D h8
 obtain ⟨a1,c,hb3,h10⟩:=Z8D h9
 refine ⟨_,?_,(joI t t20 t21 t22 t27 a t2 a1 c k).trans h10⟩
 exact Z9e hn ⟨hs2,hs3,hs5,hs20,hs21,hs22,hs27,trivial⟩ ⟨hb2,hb3,trivial⟩)
noncomputable def j6H (t20:qL) (t21:Int) (t22:Int) (c:qB×Int×Bool×Bool×Int×Int×qB) (rec:Int->qC->Res) (k0:qC->Res):Res:=
 bif decide (t22<t21) then
  bif inb t22 (List.length t20) then
   jbx (sEq (nth eS t20 t22) j7F) c λ(c1:qB×Int×Bool×Bool×Int×Int×qB)=>
    bif decide ((nI (ByteArray.size (nth eS t20 t22)))>0) then
     bif inb 0 (ByteArray.size (nth eS t20 t22)) then
      bif ((bt (nth eS t20 t22) 0)==61) then
       bif Z6R 1 (nI (ByteArray.size (nth eS t20 t22))) (ByteArray.size (nth eS t20 t22)) then
        j3h (Z9k (nth eS t20 t22) 1 (nI (ByteArray.size (nth eS t20 t22)))) λ(r:Int×Int×qB) (r1:Bool)=>
         rec (Z8g (t22+1)) (c1.1,c1.2.1,c1.2.2.1,true,r)
       else none
      else
       rec (Z8g (t22+1)) c1
     else none
    else
     rec (Z8g (t22+1)) c1
  else none
 else
  k0 c
noncomputable def j9F (t20:qL) (t21:Int):(Int×qC)->(Int×qC->Res)->((qC->Res))->Res:=λv rec q=>j6H t20 t21 v.1 v.2 (λt22 c=>rec (t22,c)) q
noncomputable def jbw (t20:qL) (t21:Int) (n:Nat) (t22:Int) (c:qB×Int×Bool×Bool×Int×Int×qB) (k0:qC->Res):Res:=Z10 (j9F t20 t21) n (t22,c) (k0)
noncomputable def jaU:Z1l Unit:=λσ k=>rdN σ 47<|rdT σ 2 (.ptr ⟨true,2,[]⟩)<|rdT σ 3 (.ptr ⟨true,3,[]⟩)<|rdV σ 20 y9 false [.S] λt20=>rdV σ 21 (.int .i64) false [] λt21=>rdV σ 22 (.int .i64) false [] λt22=>rdB σ 2 y7 [] λa t2=>rdB σ 3 y7 [] λa1 c=>jbw t20 t21 Z0Y t22 c (λ(c2:qB×Int×Bool×Bool×Int×Int×qB)=>k (.exit 0) (mkS 47 47 [(2,.ptr ⟨true,2,[]⟩),(3,.ptr ⟨true,3,[]⟩)] [(2,⟨y7,a,t2,[]⟩),(3,⟨y7,a1,c2,[]⟩)]))
theorem joG (t20:qL) (t21:Int) (a:Bool) (t2:qB×Int×Bool×Bool×Int×Int×qB) (a1:Bool) (n:Nat) (v:Int×qC) (k:Z6G Unit):Z3X (Z0R ja5 [j3U,j8a] (.t .o (.t .o (.t (.t (.t .o (.t (.t .o (.x 1)) .o)) .o) .o))) (pl (pl (pr (pl (pr (pr (pr j24)))))))) (λσ=>σ.forget [2,3,20,21,22] [2,3]) (Z8a ([],[]) [(0,[2,3],[2,3])] ([],[])) n (mkS 47 47 [(2,.ptr ⟨true,2,[]⟩),(3,.ptr ⟨true,3,[]⟩),(20,.val ⟨y9,false,t20,[.S]⟩),(21,.val ⟨(.int .i64),false,t21,[]⟩),(22,.val ⟨(.int .i64),false,v.1,[]⟩)] [(2,⟨y7,a,t2,[]⟩),(3,⟨y7,a1,v.2,[]⟩)]) k=Z10 (j9F t20 t21) n v ((λ(k:Z6G Unit)=>(((λ(c2:qB×Int×Bool×Bool×Int×Int×qB)=>k (.exit 0) (mkS 47 47 [(2,.ptr ⟨true,2,[]⟩),(3,.ptr ⟨true,3,[]⟩)] [(2,⟨y7,a,t2,[]⟩),(3,⟨y7,a1,c2,[]⟩)]))):(qC->Res))) k):=Z80 (λv:Int×qC=>(mkS 47 47 [(2,.ptr ⟨true,2,[]⟩),(3,.ptr ⟨true,3,[]⟩),(20,.val ⟨y9,false,t20,[.S]⟩),(21,.val ⟨(.int .i64),false,t21,[]⟩),(22,.val ⟨(.int .i64),false,v.1,[]⟩)] [(2,⟨y7,a,t2,[]⟩),(3,⟨y7,a1,v.2,[]⟩)])) (j9F t20 t21) (λ(k:Z6G Unit)=>(((λ(c2:qB×Int×Bool×Bool×Int×Int×qB)=>k (.exit 0) (mkS 47 47 [(2,.ptr ⟨true,2,[]⟩),(3,.ptr ⟨true,3,[]⟩)] [(2,⟨y7,a,t2,[]⟩),(3,⟨y7,a1,c2,[]⟩)]))):(qC->Res))) (λv rec k=>by kernel_rfl) n v k
theorem joS {W0:Base} {M:Nat->Prop} (hnp:W0.np<=0):Z1W Tryz.prog W0 M (pl (pr (pl (pr (pr (pr j24)))))) jaU:=show Z1W Tryz.prog W0 M (Code.loop (pl (pl (pr (pl (pr (pr (pr j24)))))))) jaU from Z8X (Z6Q follows j00 (Z7K (Z8C j0C (Z8C j5k Z8W))) hnp [j3U,j8a] (pl (pl (pr (pl (pr (pr (pr j24))))))) (.t .o (.t .o (.t (.t (.t .o (.t (.t .o (.x 1)) .o)) .o) .o))) (Z1A.mk trivial ((Z1A.mk trivial ((Z1A.mk ((Z1A.mk ((Z1A.mk trivial ((Z1A.mk ((Z1A.mk trivial (Z1A.x_mk (λW0 M hnp=>joU (W0:=W0) (M:=M) hnp)))) trivial)))) trivial)) trivial)))))) (ks:=[2,3,20,21,22]) (bs:=[2,3]) (fX:=(Z8a ([],[]) [(0,[2,3],[2,3])] ([],[]))) (Z8U _ _ _) Z0Y (by
 intro σ k r h
 obtain ⟨hn,h1⟩:=Z8G h
 obtain ⟨hs2,h2⟩:=Z8H h1
 obtain ⟨hs3,h3⟩:=Z8H h2
 obtain ⟨t20,hs20,h4⟩:=Z8J h3
 obtain ⟨t21,hs21,h5⟩:=Z8J h4
 obtain ⟨t22,hs22,h6⟩:=Z8J h5
 obtain ⟨a,t2,hb2,h7⟩:=Z8D h6
 obtain ⟨a1,c,hb3,h8⟩:=Z8D h7
 refine ⟨_,?_,(joG t20 t21 a t2 a1 Z0Y (t22,c) k).trans h8⟩
 exact Z9e hn ⟨hs2,hs3,hs20,hs21,hs22,trivial⟩ ⟨hb2,hb3,trivial⟩)
noncomputable def j8o (w:qL) (k0:qC->Res):Res:=
 bif decide ((nI (List.length w))<2) then
  k0 (eS,0,false,false,0,0,eS)
 else
  j8Y w λ(c:qB×Int×Bool×Bool×Int×Int×qB)=>
   bif Z6R 2 (nI (List.length w)) (List.length w) then
    jbw (sub w 2 (nI (List.length w))) (nI (List.length (sub w 2 (nI (List.length w))))) Z0Y 0 c λ(c1:qB×Int×Bool×Bool×Int×Int×qB)=>
     k0 c1
   else none
noncomputable def jeY:Sig Unit:=⟨[.look y9 false],[true],λvals ext k=>av vals y9 λw vals=>nl vals<|nl ext<|j8o w (λ(r0:qB×Int×Bool×Bool×Int×Int×qB)=>k [⟨y7,true,r0,[]⟩] [] [])⟩
theorem jqf (w:qL) (a_w:Bool) (t_w:List Tag) (k:qK):Z6X ja5 [j3U,j8a,jaU] (.t .o (.t .o (.t (.x 0) (.t (.t .o (.t (.x 2) .o)) .o)))) false Tryz.f162 [.look y9 false] [true] [⟨y9,a_w,w,t_w⟩] [] k=j8o w (λ(r0:qB×Int×Bool×Bool×Int×Int×qB)=>k [⟨y7,true,r0,[]⟩] [] []):=by kernel_rfl
theorem ja1:Z1k Tryz.prog 162 jeY:=Z8N (Γ:=ja5) (X:=[j3U,j8a,jaU]) (ht:=(.t .o (.t .o (.t (.x 0) (.t (.t .o (.t (.x 2) .o)) .o))))) (fz:=false) (c:=j24) follows j00 (Z8C j0C (Z8C j5k Z8W)) (Z1A.mk trivial ((Z1A.mk trivial ((Z1A.mk (Z1A.x_mk (λW0 M hnp=>joT (W0:=W0) (M:=M) hnp)) ((Z1A.mk ((Z1A.mk trivial ((Z1A.mk (Z1A.x_mk (λW0 M hnp=>joS (W0:=W0) (M:=M) hnp)) trivial)))) trivial))))))) Tryz.func162 (by kernel_rfl) (by kernel_rfl) (by decide) (by
 intro vals ext k r h
 obtain ⟨w,a_w,t_w,vals,rfl,h1⟩:=Z8T h
 obtain ⟨rfl,h2⟩:=Z90 h1
 obtain ⟨rfl,h3⟩:=Z90 h2
 exact (jqf w a_w t_w k).trans h3)
noncomputable def j6p:Code:=(Tryz.f161.body).getD .skip
noncomputable def jcj:Env Unit:=⟨tys,[(81,j2Y),(162,jeY),(210,jbN)],0⟩
noncomputable def j27 (w:qL) (e0:qG) (rec:qL->qG->Res) (k0:qL->qG->Res) (k1:qG->Res):Res:=
 bif decide ((nI (List.length w))>0) then
  bif inb 0 (List.length w) then
   bif sEq (nth eS w 0) j1b then
    j0P w j1a λ(r:Int)=>
     bif decide (r<0) then
      k1 e0
     else
      bif Z6R 1 r (List.length w) then
       j8o (sub w 1 r) λ(r1:qB×Int×Bool×Bool×Int×Int×qB)=>
        bif lim ((List.length e0.2.2.1)+1) then
         bif Z6R (Z8g (r+1)) (nI (List.length w)) (List.length w) then
          rec (sub w (Z8g (r+1)) (nI (List.length w))) (e0.1,e0.2.1,(e0.2.2.1++[r1]),e0.2.2.2)
         else none
        else none
      else none
   else
    k0 w e0
  else none
 else
  k0 w e0
noncomputable def j1z:(qL×qG)->(qL×qG->Res)->((qL->qG->Res)×(qG->Res))->Res:=λv rec q=>j27 v.1 v.2 (λw e0=>rec (w,e0)) q.1 q.2
noncomputable def jbE (n:Nat) (w:qL) (e0:qG) (k0:qL->qG->Res) (k1:qG->Res):Res:=Z10 (j1z) n (w,e0) (k0,k1)
noncomputable def j7x:Z1l Unit:=λσ k=>rdN σ 44<|rdT σ 0 (.ptr ⟨true,44,[]⟩)<|rdV σ 1 y9 false [.S] λw=>rdB σ 44 y14 [.O,.O] λa e0=>jbE Z0Y w e0 (λ(w1:qL) (e01:qG)=>k (.exit 0) (mkS 44 45 [(0,.ptr ⟨true,44,[]⟩),(1,.val ⟨y9,false,w1,[.S]⟩)] [(44,⟨y14,a,e01,[.O,.O]⟩)])) (λ(e02:qG)=>k .ret (mkS 44 45 [] [(44,⟨y14,a,e02,[.O,.O]⟩)]))
theorem jjM (a:Bool) (n:Nat) (v:qL×qG) (k:Z6G Unit):Z3X (Z0R jcj [] .o (pl (pl (pl j6p)))) (λσ=>σ.forget [0,1] [44]) (Z8a ([],[]) [(0,[0,1],[44])] ([],[44])) n (mkS 44 45 [(0,.ptr ⟨true,44,[]⟩),(1,.val ⟨y9,false,v.1,[.S]⟩)] [(44,⟨y14,a,v.2,[.O,.O]⟩)]) k=Z10 (j1z) n v ((λ(k:Z6G Unit)=>(((λ(w1:qL) (e01:qG)=>k (.exit 0) (mkS 44 45 [(0,.ptr ⟨true,44,[]⟩),(1,.val ⟨y9,false,w1,[.S]⟩)] [(44,⟨y14,a,e01,[.O,.O]⟩)])),(λ(e02:qG)=>k .ret (mkS 44 45 [] [(44,⟨y14,a,e02,[.O,.O]⟩)]))):(qL->qG->Res)×(qG->Res))) k):=Z80 (λv:qL×qG=>(mkS 44 45 [(0,.ptr ⟨true,44,[]⟩),(1,.val ⟨y9,false,v.1,[.S]⟩)] [(44,⟨y14,a,v.2,[.O,.O]⟩)])) (j1z) (λ(k:Z6G Unit)=>(((λ(w1:qL) (e01:qG)=>k (.exit 0) (mkS 44 45 [(0,.ptr ⟨true,44,[]⟩),(1,.val ⟨y9,false,w1,[.S]⟩)] [(44,⟨y14,a,e01,[.O,.O]⟩)])),(λ(e02:qG)=>k .ret (mkS 44 45 [] [(44,⟨y14,a,e02,[.O,.O]⟩)]))):(qL->qG->Res)×(qG->Res))) (λv rec k=>by kernel_rfl) n v k
theorem jke {W0:Base} {M:Nat->Prop} (hnp:W0.np<=0):Z1W Tryz.prog W0 M (pl (pl j6p)) j7x:=show Z1W Tryz.prog W0 M (Code.loop (pl (pl (pl j6p)))) j7x from Z8X (Z6Q follows j00 (Z7K (Z8C j0C (Z8C ja1 (Z8C jbA Z8W)))) hnp [] (pl (pl (pl j6p))) .o trivial) (ks:=[0,1]) (bs:=[44]) (fX:=(Z8a ([],[]) [(0,[0,1],[44])] ([],[44]))) (Z8U _ _ _) Z0Y (by
 intro σ k r h
 obtain ⟨hn,h1⟩:=Z8G h
 obtain ⟨hs0,h2⟩:=Z8H h1
 obtain ⟨w,hs1,h3⟩:=Z8J h2
 obtain ⟨a,e0,hb44,h4⟩:=Z8D h3
 refine ⟨_,?_,(jjM a Z0Y (w,e0) k).trans h4⟩
 exact Z9e hn ⟨hs0,hs1,trivial⟩ ⟨hb44,trivial⟩)
noncomputable def j69 (w:qL) (e0:qG) (k0:qG->Res):Res:=
 jbE Z0Y w e0
  (λ(w1:qL) (e:qG)=>
   bif decide ((nI (List.length w1))>0) then
    bif Z6R 1 (nI (List.length w1)) (List.length w1) then
     j5o (sub w1 1 (nI (List.length w1))) λ(r:qL)=>
      k0 (e.1,e.2.1,e.2.2.1,r,e.2.2.2.2)
    else none
   else
    k0 e)
  (λ(e1:qG)=>
   k0 e1)
noncomputable def jfN:Sig Unit:=⟨[.ptr y14,.borrow y9 false],[],λvals ext k=>av vals y9 λw vals=>nl vals<|ab ext y14 [.O,.O] λa e0 ext=>nl ext<|j69 w e0 (λ(x0:qG)=>k [] [] [⟨y14,a,x0,[.O,.O]⟩])⟩
theorem jmM (w:qL) (a_w:Bool) (t_w:List Tag) (a:Bool) (e0:qG) (k:qK):Z6X jcj [j7x] (.t (.t (.x 0) .o) .o) false Tryz.f161 [.ptr y14,.borrow y9 false] [] [⟨y9,a_w,w,t_w⟩] [⟨y14,a,e0,[.O,.O]⟩] k=j69 w e0 (λ(x0:qG)=>k [] [] [⟨y14,a,x0,[.O,.O]⟩]):=by kernel_rfl
theorem jc9:Z1k Tryz.prog 161 jfN:=Z8N (Γ:=jcj) (X:=[j7x]) (ht:=(.t (.t (.x 0) .o) .o)) (fz:=false) (c:=j6p) follows j00 (Z8C j0C (Z8C ja1 (Z8C jbA Z8W))) (Z1A.mk ((Z1A.mk (Z1A.x_mk (λW0 M hnp=>jke (W0:=W0) (M:=M) hnp)) trivial)) trivial) Tryz.func161 (by kernel_rfl) (by kernel_rfl) (by decide) (by
 intro vals ext k r h
 obtain ⟨w,a_w,t_w,vals,rfl,h1⟩:=Z8T h
 obtain ⟨rfl,h2⟩:=Z90 h1
 obtain ⟨a,e0,ext,rfl,h3⟩:=Z8R h2
 obtain ⟨rfl,h4⟩:=Z90 h3
 exact (jmM w a_w t_w a e0 k).trans h4)
noncomputable def jpS:Code:=(Tryz.f207.body).getD .skip
noncomputable def jhE:Env Unit:=⟨tys,[],0⟩
noncomputable def jdM (ty:Int) (k0:qB->Res):Res:=
 bif inb ty 4 then
  k0 (nth eS [eS,j1m,j2l,j1A] ty)
 else none
noncomputable def jhR:Sig Unit:=⟨[.look (.int .i64) false],[false],λvals ext k=>av vals (.int .i64) λty vals=>nl vals<|nl ext<|jdM ty (λ(r0:qB)=>k [⟨.str,false,r0,[]⟩] [] [])⟩
theorem jpy (ty:Int) (a_ty:Bool) (t_ty:List Tag) (k:qK):Z6X jhE [] .o false Tryz.f207 [.look (.int .i64) false] [false] [⟨(.int .i64),a_ty,ty,t_ty⟩] [] k=jdM ty (λ(r0:qB)=>k [⟨.str,false,r0,[]⟩] [] []):=by kernel_rfl
theorem jhx:Z1k Tryz.prog 207 jhR:=Z8N (Γ:=jhE) (X:=[]) (ht:= .o) (fz:=false) (c:=jpS) follows j00 Z8W trivial Tryz.func207 (by kernel_rfl) (by kernel_rfl) (by decide) (by
 intro vals ext k r h
 obtain ⟨ty,a_ty,t_ty,vals,rfl,h1⟩:=Z8T h
 obtain ⟨rfl,h2⟩:=Z90 h1
 obtain ⟨rfl,h3⟩:=Z90 h2
 exact (jpy ty a_ty t_ty k).trans h3)
noncomputable def jaq:Code:=(Tryz.f156.body).getD .skip
noncomputable def jde:Env Unit:=⟨tys,[(155,jaK),(201,jcG),(207,jhR)],0⟩
noncomputable def j9x (s:qB) (t15:Bool) (k0:qB->Res):Res:=
 bif t15 then
  bif lim ((ByteArray.size s)+4) then
   k0 (s++jre)
  else none
 else
  k0 s
noncomputable def jbR:Z1l Unit:=λσ k=>rdN σ 27<|rdT σ 1 (.ptr ⟨true,1,[]⟩)<|rdV σ 3 .str false [] λs=>rdV σ 15 .bool false [] λt15=>rdB σ 1 y7 [] λa c=>j9x s t15 (λ(s1:qB)=>k .normal (mkS 27 27 [(1,.ptr ⟨true,1,[]⟩),(3,.val ⟨.str,false,s1,[]⟩)] [(1,⟨y7,a,c,[]⟩)]))
theorem jl4 (s:qB) (t15:Bool) (a:Bool) (c:qB×Int×Bool×Bool×Int×Int×qB) (k:Z6G Unit):Z0R jde [] .o (pr (pl (pr (pr (pr jaq))))) (mkS 27 27 [(1,.ptr ⟨true,1,[]⟩),(3,.val ⟨.str,false,s,[]⟩),(15,.val ⟨.bool,false,t15,[]⟩)] [(1,⟨y7,a,c,[]⟩)]) (λe σ=>k e ((Z8a ([1,3],[1]) [] ([],[])) e σ))=j9x s t15 (λ(s1:qB)=>k .normal (mkS 27 27 [(1,.ptr ⟨true,1,[]⟩),(3,.val ⟨.str,false,s1,[]⟩)] [(1,⟨y7,a,c,[]⟩)])):=by kernel_rfl
theorem jlR {W0:Base} {M:Nat->Prop} (hnp:W0.np<=0):Z1W Tryz.prog W0 M (pr (pl (pr (pr (pr jaq))))) jbR:=Z91 (Z6Q follows j00 (Z7K (Z8C j2N (Z8C j7G (Z8C jhx Z8W)))) hnp [] ((pr (pl (pr (pr (pr jaq)))))) .o trivial) (fg:=(Z8a ([1,3],[1]) [] ([],[]))) (Z8U _ _ _) (by
 intro σ k r h
 obtain ⟨hn,h1⟩:=Z8G h
 obtain ⟨hs1,h2⟩:=Z8H h1
 obtain ⟨s,hs3,h3⟩:=Z8J h2
 obtain ⟨t15,hs15,h4⟩:=Z8J h3
 obtain ⟨a,c,hb1,h5⟩:=Z8D h4
 refine ⟨_,?_,(jl4 s t15 a c k).trans h5⟩
 exact Z9e hn ⟨hs1,hs3,hs15,trivial⟩ ⟨hb1,trivial⟩)
noncomputable def j81 (c:qB×Int×Bool×Bool×Int×Int×qB) (k0:qB->Res):Res:=
 j8i c λ(r:Bool)=>
  bif !r then
   k0 eS
  else
   bif lim ((ByteArray.size c.1)+1) then
    jdM c.2.1 λ(r1:qB)=>
     bif lim ((ByteArray.size (c.1++j0e))+(ByteArray.size r1)) then
      j9x ((c.1++j0e)++r1) c.2.2.1 λ(s:qB)=>
       bif c.2.2.2.1 then
        bif lim ((ByteArray.size s)+2) then
         j5y c.2.2.2.2 λ(r2:qB)=>
          bif lim ((ByteArray.size (s++js8))+(ByteArray.size r2)) then
           k0 ((s++js8)++r2)
          else none
        else none
       else
        k0 s
     else none
   else none
noncomputable def jgA:Sig Unit:=⟨[.look y7 true],[false],λvals ext k=>av vals y7 λc vals=>nl vals<|nl ext<|j81 c (λ(r0:qB)=>k [⟨.str,false,r0,[]⟩] [] [])⟩
theorem jo3 (c:qB×Int×Bool×Bool×Int×Int×qB) (a_c:Bool) (t_c:List Tag) (k:qK):Z6X jde [jbR] (.t .o (.t .o (.t .o (.t (.t .o (.x 0)) .o)))) false Tryz.f156 [.look y7 true] [false] [⟨y7,a_c,c,t_c⟩] [] k=j81 c (λ(r0:qB)=>k [⟨.str,false,r0,[]⟩] [] []):=by kernel_rfl
theorem jgf:Z1k Tryz.prog 156 jgA:=Z8N (Γ:=jde) (X:=[jbR]) (ht:=(.t .o (.t .o (.t .o (.t (.t .o (.x 0)) .o))))) (fz:=false) (c:=jaq) follows j00 (Z8C j2N (Z8C j7G (Z8C jhx Z8W))) (Z1A.mk trivial ((Z1A.mk trivial ((Z1A.mk trivial ((Z1A.mk ((Z1A.mk trivial (Z1A.x_mk (λW0 M hnp=>jlR (W0:=W0) (M:=M) hnp)))) trivial))))))) Tryz.func156 (by kernel_rfl) (by kernel_rfl) (by decide) (by
 intro vals ext k r h
 obtain ⟨c,a_c,t_c,vals,rfl,h1⟩:=Z8T h
 obtain ⟨rfl,h2⟩:=Z90 h1
 obtain ⟨rfl,h3⟩:=Z90 h2
 exact (jo3 c a_c t_c k).trans h3)
noncomputable def j7O:Code:=(Tryz.f67.body).getD .skip
noncomputable def jdf:Env Unit:=⟨tys,[(65,jai),(151,jeX),(156,jgA)],0⟩
noncomputable def j4E (t17:List qC) (t18:Int) (s:qB) (t19:Int) (rec:qB->Int->Res) (k0:qB->Res):Res:=
 bif decide (t19<t18) then
  bif inb t19 (List.length t17) then
   bif lim ((ByteArray.size s)+3) then
    j81 (nth (eS,0,false,false,0,0,eS) t17 t19) λ(r:qB)=>
     bif lim ((ByteArray.size (s++jg5))+(ByteArray.size r)) then
      bif lim ((ByteArray.size ((s++jg5)++r))+2) then
       rec (((s++jg5)++r)++jgS) (Z8g (t19+1))
      else none
     else none
   else none
  else none
 else
  k0 s
noncomputable def j7h (t17:List qC) (t18:Int):(qB×Int)->(qB×Int->Res)->((qB->Res))->Res:=λv rec q=>j4E t17 t18 v.1 v.2 (λs t19=>rec (s,t19)) q
noncomputable def jcu (t17:List qC) (t18:Int) (n:Nat) (s:qB) (t19:Int) (k0:qB->Res):Res:=Z10 (j7h t17 t18) n (s,t19) (k0)
noncomputable def j8B:Z1l Unit:=λσ k=>rdN σ 68<|rdT σ 1 (.ptr ⟨true,1,[]⟩)<|rdV σ 3 .str false [] λs=>rdV σ 17 y8 false [.S] λt17=>rdV σ 18 (.int .i64) false [] λt18=>rdV σ 19 (.int .i64) false [] λt19=>rdB σ 1 y14 [.S,.S] λa d=>jcu t17 t18 Z0Y s t19 (λ(s1:qB)=>k (.exit 1) (mkS 68 68 [(1,.ptr ⟨true,1,[]⟩),(3,.val ⟨.str,false,s1,[]⟩)] [(1,⟨y14,a,d,[.S,.S]⟩)]))
theorem jl5 (t17:List qC) (t18:Int) (a:Bool) (d:qG) (n:Nat) (v:qB×Int) (k:Z6G Unit):Z3X (Z0R jdf [] .o (pl (pl (pr (pl (pr (pl (pr (pl (pr (pl (pr (pr j7O))))))))))))) (λσ=>σ.forget [1,3,17,18,19] [1]) (Z8a ([],[]) [(1,[1,3],[1])] ([],[])) n (mkS 68 68 [(1,.ptr ⟨true,1,[]⟩),(3,.val ⟨.str,false,v.1,[]⟩),(17,.val ⟨y8,false,t17,[.S]⟩),(18,.val ⟨(.int .i64),false,t18,[]⟩),(19,.val ⟨(.int .i64),false,v.2,[]⟩)] [(1,⟨y14,a,d,[.S,.S]⟩)]) k=Z10 (j7h t17 t18) n v ((λ(k:Z6G Unit)=>(((λ(s1:qB)=>k (.exit 1) (mkS 68 68 [(1,.ptr ⟨true,1,[]⟩),(3,.val ⟨.str,false,s1,[]⟩)] [(1,⟨y14,a,d,[.S,.S]⟩)]))):(qB->Res))) k):=Z80 (λv:qB×Int=>(mkS 68 68 [(1,.ptr ⟨true,1,[]⟩),(3,.val ⟨.str,false,v.1,[]⟩),(17,.val ⟨y8,false,t17,[.S]⟩),(18,.val ⟨(.int .i64),false,t18,[]⟩),(19,.val ⟨(.int .i64),false,v.2,[]⟩)] [(1,⟨y14,a,d,[.S,.S]⟩)])) (j7h t17 t18) (λ(k:Z6G Unit)=>(((λ(s1:qB)=>k (.exit 1) (mkS 68 68 [(1,.ptr ⟨true,1,[]⟩),(3,.val ⟨.str,false,s1,[]⟩)] [(1,⟨y14,a,d,[.S,.S]⟩)]))):(qB->Res))) (λv rec k=>by kernel_rfl) n v k
theorem jlS {W0:Base} {M:Nat->Prop} (hnp:W0.np<=0):Z1W Tryz.prog W0 M (pl (pr (pl (pr (pl (pr (pl (pr (pl (pr (pr j7O))))))))))) j8B:=show Z1W Tryz.prog W0 M (Code.loop (pl (pl (pr (pl (pr (pl (pr (pl (pr (pl (pr (pr j7O))))))))))))) j8B from Z8X (Z6Q follows j00 (Z7K (Z8C j7I (Z8C jc7 (Z8C jgf Z8W)))) hnp [] (pl (pl (pr (pl (pr (pl (pr (pl (pr (pl (pr (pr j7O)))))))))))) .o trivial) (ks:=[1,3,17,18,19]) (bs:=[1]) (fX:=(Z8a ([],[]) [(1,[1,3],[1])] ([],[]))) (Z8U _ _ _) Z0Y (by
 intro σ k r h
 obtain ⟨hn,h1⟩:=Z8G h
 obtain ⟨hs1,h2⟩:=Z8H h1
 obtain ⟨s,hs3,h3⟩:=Z8J h2
 obtain ⟨t17,hs17,h4⟩:=Z8J h3
 obtain ⟨t18,hs18,h5⟩:=Z8J h4
 obtain ⟨t19,hs19,h6⟩:=Z8J h5
 obtain ⟨a,d,hb1,h7⟩:=Z8D h6
 refine ⟨_,?_,(jl5 t17 t18 a d Z0Y (s,t19) k).trans h7⟩
 exact Z9e hn ⟨hs1,hs3,hs17,hs18,hs19,trivial⟩ ⟨hb1,trivial⟩)
noncomputable def j3d (d:qG) (k0:qB->Res):Res:=
 jaD d λ(r:Bool)=>
  bif !r then
   k0 eS
  else
   bif (d.1==1) then
    bif lim (7+(ByteArray.size d.2.1)) then
     jcu d.2.2.1 (nI (List.length d.2.2.1)) Z0Y (j8f++d.2.1) 0 λ(s:qB)=>
      bif lim ((ByteArray.size s)+5) then
       j1h d.2.2.2.1 λ(r1:qB)=>
        bif lim ((ByteArray.size (s++jc6))+(ByteArray.size r1)) then
         k0 ((s++jc6)++r1)
        else none
      else none
    else none
   else
    bif (d.1==2) then
     bif lim (5+(ByteArray.size d.2.1)) then
      k0 (jrL++d.2.1)
     else none
    else
     bif (d.1==3) then
      bif inb 0 (List.length d.2.2.1) then
       j81 (nth (eS,0,false,false,0,0,eS) d.2.2.1 0) λ(r2:qB)=>
        j1h [j4v,d.2.1,r2] λ(r3:qB)=>
         k0 r3
      else none
     else
      bif (d.1==4) then
       j1h [j74,d.2.1,d.2.2.2.2.1] λ(r4:qB)=>
        k0 r4
      else
       j1h [j36,d.2.1,d.2.2.2.2.1,d.2.2.2.2.2] λ(r5:qB)=>
        k0 r5
noncomputable def jdy:Sig Unit:=⟨[.look y14 true],[false],λvals ext k=>av vals y14 λd vals=>nl vals<|nl ext<|j3d d (λ(r0:qB)=>k [⟨.str,false,r0,[]⟩] [] [])⟩
theorem jo4 (d:qG) (a_d:Bool) (t_d:List Tag) (k:qK):Z6X jdf [j8B] (.t .o (.t .o (.t (.t .o (.t (.t .o (.t (.t .o (.t (.t .o (.t (.x 0) .o)) .o)) .o)) .o)) .o))) false Tryz.f67 [.look y14 true] [false] [⟨y14,a_d,d,t_d⟩] [] k=j3d d (λ(r0:qB)=>k [⟨.str,false,r0,[]⟩] [] []):=by kernel_rfl
theorem jao:Z1k Tryz.prog 67 jdy:=Z8N (Γ:=jdf) (X:=[j8B]) (ht:=(.t .o (.t .o (.t (.t .o (.t (.t .o (.t (.t .o (.t (.t .o (.t (.x 0) .o)) .o)) .o)) .o)) .o)))) (fz:=false) (c:=j7O) follows j00 (Z8C j7I (Z8C jc7 (Z8C jgf Z8W))) (Z1A.mk trivial ((Z1A.mk trivial ((Z1A.mk ((Z1A.mk trivial ((Z1A.mk ((Z1A.mk trivial ((Z1A.mk ((Z1A.mk trivial ((Z1A.mk ((Z1A.mk trivial ((Z1A.mk (Z1A.x_mk (λW0 M hnp=>jlS (W0:=W0) (M:=M) hnp)) trivial)))) trivial)))) trivial)))) trivial)))) trivial))))) Tryz.func67 (by kernel_rfl) (by kernel_rfl) (by decide) (by
 intro vals ext k r h
 obtain ⟨d,a_d,t_d,vals,rfl,h1⟩:=Z8T h
 obtain ⟨rfl,h2⟩:=Z90 h1
 obtain ⟨rfl,h3⟩:=Z90 h2
 exact (jo4 d a_d t_d k).trans h3)
noncomputable def j3P:Code:=(Tryz.f78.body).getD .skip
noncomputable def jax:Env Unit:=⟨tys,[(67,jdy),(79,jah),(161,jfN),(162,jeY)],0⟩
noncomputable def j9A (w:qL) (k0:Bool->Res):Res:=
 bif inb 0 (List.length w) then
  bif sEq (nth eS w 0) j74 then
   k0 ((nI (List.length w))==3)
  else
   k0 false
 else none
noncomputable def j5P:Z1l Unit:=λσ k=>rdN σ 82<|rdV σ 0 .str false [] λs=>rdT σ 2 (.ptr ⟨true,2,[]⟩)<|rdV σ 4 y9 false [.S] λw=>rdT σ 5 (.ptr ⟨true,5,[]⟩)<|rdB σ 2 y14 [.O,.O] λa t2=>rdB σ 5 y14 [.O,.O] λa1 d=>j9A w (λ(t42:Bool)=>k .normal (mkS 82 82 [(0,.val ⟨.str,false,s,[]⟩),(2,.ptr ⟨true,2,[]⟩),(4,.val ⟨y9,false,w,[.S]⟩),(5,.ptr ⟨true,5,[]⟩),(42,.val ⟨.bool,false,t42,[]⟩)] [(2,⟨y14,a,t2,[.O,.O]⟩),(5,⟨y14,a1,d,[.O,.O]⟩)]))
theorem jla (s:qB) (w:qL) (a:Bool) (t2:qG) (a1:Bool) (d:qG) (k:Z6G Unit):Z0R jax [] .o (pl (pr (pr (pr (pr (pr (pr (pl (pl (pr (pr (pr (pr j3P))))))))))))) (mkS 82 82 [(0,.val ⟨.str,false,s,[]⟩),(2,.ptr ⟨true,2,[]⟩),(4,.val ⟨y9,false,w,[.S]⟩),(5,.ptr ⟨true,5,[]⟩)] [(2,⟨y14,a,t2,[.O,.O]⟩),(5,⟨y14,a1,d,[.O,.O]⟩)]) (λe σ=>k e ((Z8a ([0,2,4,5,42],[2,5]) [] ([],[])) e σ))=j9A w (λ(t42:Bool)=>k .normal (mkS 82 82 [(0,.val ⟨.str,false,s,[]⟩),(2,.ptr ⟨true,2,[]⟩),(4,.val ⟨y9,false,w,[.S]⟩),(5,.ptr ⟨true,5,[]⟩),(42,.val ⟨.bool,false,t42,[]⟩)] [(2,⟨y14,a,t2,[.O,.O]⟩),(5,⟨y14,a1,d,[.O,.O]⟩)])):=by kernel_rfl
theorem jlX {W0:Base} {M:Nat->Prop} (hnp:W0.np<=0):Z1W Tryz.prog W0 M (pl (pr (pr (pr (pr (pr (pr (pl (pl (pr (pr (pr (pr j3P))))))))))))) j5P:=Z91 (Z6Q follows j00 (Z7K (Z8C jao (Z8C j22 (Z8C jc9 (Z8C ja1 Z8W))))) hnp [] ((pl (pr (pr (pr (pr (pr (pr (pl (pl (pr (pr (pr (pr j3P)))))))))))))) .o trivial) (fg:=(Z8a ([0,2,4,5,42],[2,5]) [] ([],[]))) (Z8U _ _ _) (by
 intro σ k r h
 obtain ⟨hn,h1⟩:=Z8G h
 obtain ⟨s,hs0,h2⟩:=Z8J h1
 obtain ⟨hs2,h3⟩:=Z8H h2
 obtain ⟨w,hs4,h4⟩:=Z8J h3
 obtain ⟨hs5,h5⟩:=Z8H h4
 obtain ⟨a,t2,hb2,h6⟩:=Z8D h5
 obtain ⟨a1,d,hb5,h7⟩:=Z8D h6
 refine ⟨_,?_,(jla s w a t2 a1 d k).trans h7⟩
 exact Z9e hn ⟨hs0,hs2,hs4,hs5,trivial⟩ ⟨hb2,hb5,trivial⟩)
noncomputable def j9B (w:qL) (d:qG) (k0:qG->Res):Res:=
 bif inb 0 (List.length w) then
  bif sEq (nth eS w 0) j17 then
   bif Z6R 2 (nI (List.length w)) (List.length w) then
    j69 (sub w 2 (nI (List.length w))) (1,d.2) λ(bd:qG)=>
     k0 bd
   else none
  else
   bif inb 0 (List.length w) then
    bif sEq (nth eS w 0) j3N then
     k0 (2,d.2)
    else
     bif inb 0 (List.length w) then
      bif sEq (nth eS w 0) j4v then
       bif Z6R 2 (nI (List.length w)) (List.length w) then
        j8o (sub w 2 (nI (List.length w))) λ(r:qB×Int×Bool×Bool×Int×Int×qB)=>
         k0 (3,d.2.1,[r],d.2.2.2)
       else none
      else
       j9A w λ(t:Bool)=>
        bif t then
         bif inb 2 (List.length w) then
          k0 (4,d.2.1,d.2.2.1,d.2.2.2.1,nth eS w 2,d.2.2.2.2.2)
         else none
        else
         bif inb 0 (List.length w) then
          bif sEq (nth eS w 0) j36 then
           bif ((nI (List.length w))==4) then
            bif inb 2 (List.length w) then
             bif inb 3 (List.length w) then
              k0 (5,d.2.1,d.2.2.1,d.2.2.2.1,nth eS w 2,nth eS w 3)
             else none
            else none
           else
            k0 d
          else
           k0 d
         else none
     else none
   else none
 else none
noncomputable def jbT:Z1l Unit:=λσ k=>rdN σ 82<|rdV σ 0 .str false [] λs=>rdT σ 2 (.ptr ⟨true,2,[]⟩)<|rdV σ 4 y9 false [.S] λw=>rdT σ 5 (.ptr ⟨true,5,[]⟩)<|rdB σ 2 y14 [.O,.O] λa t2=>rdB σ 5 y14 [.O,.O] λa1 d=>j9B w d (λ(d1:qG)=>k .normal (mkS 82 82 [(0,.val ⟨.str,false,s,[]⟩),(2,.ptr ⟨true,2,[]⟩),(5,.ptr ⟨true,5,[]⟩)] [(2,⟨y14,a,t2,[.O,.O]⟩),(5,⟨y14,a1,d1,[.O,.O]⟩)]))
theorem jlb (s:qB) (w:qL) (a:Bool) (t2:qG) (a1:Bool) (d:qG) (k:Z6G Unit):Z0R jax [j5P] (.t (.t .o (.t .o (.t .o (.t .o (.t .o (.t .o (.t (.x 0) .o))))))) .o) (pl (pr (pr (pr (pr j3P))))) (mkS 82 82 [(0,.val ⟨.str,false,s,[]⟩),(2,.ptr ⟨true,2,[]⟩),(4,.val ⟨y9,false,w,[.S]⟩),(5,.ptr ⟨true,5,[]⟩)] [(2,⟨y14,a,t2,[.O,.O]⟩),(5,⟨y14,a1,d,[.O,.O]⟩)]) (λe σ=>k e ((Z8a ([0,2,5],[2,5]) [] ([],[])) e σ))=j9B w d (λ(d1:qG)=>k .normal (mkS 82 82 [(0,.val ⟨.str,false,s,[]⟩),(2,.ptr ⟨true,2,[]⟩),(5,.ptr ⟨true,5,[]⟩)] [(2,⟨y14,a,t2,[.O,.O]⟩),(5,⟨y14,a1,d1,[.O,.O]⟩)])):=by kernel_rfl
theorem jlY {W0:Base} {M:Nat->Prop} (hnp:W0.np<=0):Z1W Tryz.prog W0 M (pl (pr (pr (pr (pr j3P))))) jbT:=Z91 (Z6Q follows j00 (Z7K (Z8C jao (Z8C j22 (Z8C jc9 (Z8C ja1 Z8W))))) hnp [j5P] ((pl (pr (pr (pr (pr j3P)))))) (.t (.t .o (.t .o (.t .o (.t .o (.t .o (.t .o (.t (.x 0) .o))))))) .o) (Z1A.mk ((Z1A.mk trivial ((Z1A.mk trivial ((Z1A.mk trivial ((Z1A.mk trivial ((Z1A.mk trivial ((Z1A.mk trivial ((Z1A.mk (Z1A.x_mk (λW0 M hnp=>jlX (W0:=W0) (M:=M) hnp)) trivial)))))))))))))) trivial)) (fg:=(Z8a ([0,2,5],[2,5]) [] ([],[]))) (Z8U _ _ _) (by
 intro σ k r h
 obtain ⟨hn,h1⟩:=Z8G h
 obtain ⟨s,hs0,h2⟩:=Z8J h1
 obtain ⟨hs2,h3⟩:=Z8H h2
 obtain ⟨w,hs4,h4⟩:=Z8J h3
 obtain ⟨hs5,h5⟩:=Z8H h4
 obtain ⟨a,t2,hb2,h6⟩:=Z8D h5
 obtain ⟨a1,d,hb5,h7⟩:=Z8D h6
 refine ⟨_,?_,(jlb s w a t2 a1 d k).trans h7⟩
 exact Z9e hn ⟨hs0,hs2,hs4,hs5,trivial⟩ ⟨hb2,hb5,trivial⟩)
noncomputable def jab (s:qB) (k0:qG->Bool->Res):Res:=
 j6G s λ(r:qL)=>
  bif decide ((nI (List.length r))<2) then
   k0 (0,eS,[],[],eS,eS) false
  else
   bif inb 1 (List.length r) then
    j9B r (0,nth eS r 1,[],[],eS,eS) λ(d:qG)=>
     j3d d λ(r1:qB)=>
      bif sNe r1 s then
       k0 (0,eS,[],[],eS,eS) false
      else
       k0 d true
   else none
noncomputable def jgC:Sig Unit:=⟨[.borrow .str false],[true,false],λvals ext k=>av vals .str λs vals=>nl vals<|nl ext<|jab s (λ(r0:qG) (r1:Bool)=>k [⟨y14,true,r0,[.O,.O]⟩,⟨.bool,false,r1,[]⟩] [] [])⟩
theorem jo8 (s:qB) (a_s:Bool) (t_s:List Tag) (k:qK):Z6X jax [j5P,jbT] (.t .o (.t .o (.t .o (.t .o (.t (.x 1) .o))))) false Tryz.f78 [.borrow .str false] [true,false] [⟨.str,a_s,s,t_s⟩] [] k=jab s (λ(r0:qG) (r1:Bool)=>k [⟨y14,true,r0,[.O,.O]⟩,⟨.bool,false,r1,[]⟩] [] []):=by kernel_rfl
theorem jgg:Z1k Tryz.prog 78 jgC:=Z8N (Γ:=jax) (X:=[j5P,jbT]) (ht:=(.t .o (.t .o (.t .o (.t .o (.t (.x 1) .o)))))) (fz:=false) (c:=j3P) follows j00 (Z8C jao (Z8C j22 (Z8C jc9 (Z8C ja1 Z8W)))) (Z1A.mk trivial ((Z1A.mk trivial ((Z1A.mk trivial ((Z1A.mk trivial ((Z1A.mk (Z1A.x_mk (λW0 M hnp=>jlY (W0:=W0) (M:=M) hnp)) trivial))))))))) Tryz.func78 (by kernel_rfl) (by kernel_rfl) (by decide) (by
 intro vals ext k r h
 obtain ⟨s,a_s,t_s,vals,rfl,h1⟩:=Z8T h
 obtain ⟨rfl,h2⟩:=Z90 h1
 obtain ⟨rfl,h3⟩:=Z90 h2
 exact (jo8 s a_s t_s k).trans h3)
noncomputable def j8R:Code:=(Tryz.f80.body).getD .skip
noncomputable def je5:Env Unit:=⟨tys,[(163,jdA)],0⟩
noncomputable def j5B (t9:qL) (t10:Int) (out:List qV) (t11:Int) (rec:qW->Int->Res) (k0:qW->Res):Res:=
 bif decide (t11<t10) then
  bif inb t11 (List.length t9) then
   j3h (nth eS t9 t11) λ(r:Int×Int×qB) (r1:Bool)=>
    bif !r1 then
     bif lim ((List.length out)+1) then
      rec (out++[((-1),0,eS)]) (Z8g (t11+1))
     else none
    else
     bif lim ((List.length out)+1) then
      rec (out++[r]) (Z8g (t11+1))
     else none
  else none
 else
  k0 out
noncomputable def j8q (t9:qL) (t10:Int):(qW×Int)->(qW×Int->Res)->((qW->Res))->Res:=λv rec q=>j5B t9 t10 v.1 v.2 (λout t11=>rec (out,t11)) q
noncomputable def jdu (t9:qL) (t10:Int) (n:Nat) (out:List qV) (t11:Int) (k0:qW->Res):Res:=Z10 (j8q t9 t10) n (out,t11) (k0)
noncomputable def j9W:Z1l Unit:=λσ k=>rdN σ 29<|rdV σ 3 y3 false [.O] λout=>rdV σ 9 y9 false [.S] λt9=>rdV σ 10 (.int .i64) false [] λt10=>rdV σ 11 (.int .i64) false [] λt11=>jdu t9 t10 Z0Y out t11 (λ(out1:List qV)=>k (.exit 0) (mkS 29 29 [(3,.val ⟨y3,false,out1,[.O]⟩)] []))
theorem jnq (t9:qL) (t10:Int) (n:Nat) (v:qW×Int) (k:Z6G Unit):Z3X (Z0R je5 [] .o (pl (pl (pr (pl (pr (pr j8R))))))) (λσ=>σ.forget [3,9,10,11] []) (Z8a ([],[]) [(0,[3],[])] ([],[])) n (mkS 29 29 [(3,.val ⟨y3,false,v.1,[.O]⟩),(9,.val ⟨y9,false,t9,[.S]⟩),(10,.val ⟨(.int .i64),false,t10,[]⟩),(11,.val ⟨(.int .i64),false,v.2,[]⟩)] []) k=Z10 (j8q t9 t10) n v ((λ(k:Z6G Unit)=>(((λ(out1:List qV)=>k (.exit 0) (mkS 29 29 [(3,.val ⟨y3,false,out1,[.O]⟩)] []))):(qW->Res))) k):=Z80 (λv:qW×Int=>(mkS 29 29 [(3,.val ⟨y3,false,v.1,[.O]⟩),(9,.val ⟨y9,false,t9,[.S]⟩),(10,.val ⟨(.int .i64),false,t10,[]⟩),(11,.val ⟨(.int .i64),false,v.2,[]⟩)] [])) (j8q t9 t10) (λ(k:Z6G Unit)=>(((λ(out1:List qV)=>k (.exit 0) (mkS 29 29 [(3,.val ⟨y3,false,out1,[.O]⟩)] []))):(qW->Res))) (λv rec k=>by kernel_rfl) n v k
theorem jnJ {W0:Base} {M:Nat->Prop} (hnp:W0.np<=0):Z1W Tryz.prog W0 M (pl (pr (pl (pr (pr j8R))))) j9W:=show Z1W Tryz.prog W0 M (Code.loop (pl (pl (pr (pl (pr (pr j8R))))))) j9W from Z8X (Z6Q follows j00 (Z7K (Z8C j5k Z8W)) hnp [] (pl (pl (pr (pl (pr (pr j8R)))))) .o trivial) (ks:=[3,9,10,11]) (bs:=[]) (fX:=(Z8a ([],[]) [(0,[3],[])] ([],[]))) (Z8U _ _ _) Z0Y (by
 intro σ k r h
 obtain ⟨hn,h1⟩:=Z8G h
 obtain ⟨out,hs3,h2⟩:=Z8J h1
 obtain ⟨t9,hs9,h3⟩:=Z8J h2
 obtain ⟨t10,hs10,h4⟩:=Z8J h3
 obtain ⟨t11,hs11,h5⟩:=Z8J h4
 refine ⟨_,?_,(jnq t9 t10 Z0Y (out,t11) k).trans h5⟩
 exact Z9e hn ⟨hs3,hs9,hs10,hs11,trivial⟩ trivial)
noncomputable def j3a (w:qL) (k0:qW->Res):Res:=
 jdu w (nI (List.length w)) Z0Y [] 0 λ(out:List qV)=>
  k0 out
noncomputable def jhS:Sig Unit:=⟨[.borrow y9 false],[false],λvals ext k=>av vals y9 λw vals=>nl vals<|nl ext<|j3a w (λ(r0:List qV)=>k [⟨y3,false,r0,[.O]⟩] [] [])⟩
theorem jpz (w:qL) (a_w:Bool) (t_w:List Tag) (k:qK):Z6X je5 [j9W] (.t .o (.t .o (.t (.t .o (.t (.x 0) .o)) .o))) false Tryz.f80 [.borrow y9 false] [false] [⟨y9,a_w,w,t_w⟩] [] k=j3a w (λ(r0:List qV)=>k [⟨y3,false,r0,[.O]⟩] [] []):=by kernel_rfl
theorem jhy:Z1k Tryz.prog 80 jhS:=Z8N (Γ:=je5) (X:=[j9W]) (ht:=(.t .o (.t .o (.t (.t .o (.t (.x 0) .o)) .o)))) (fz:=false) (c:=j8R) follows j00 (Z8C j5k Z8W) (Z1A.mk trivial ((Z1A.mk trivial ((Z1A.mk ((Z1A.mk trivial ((Z1A.mk (Z1A.x_mk (λW0 M hnp=>jnJ (W0:=W0) (M:=M) hnp)) trivial)))) trivial))))) Tryz.func80 (by kernel_rfl) (by kernel_rfl) (by decide) (by
 intro vals ext k r h
 obtain ⟨w,a_w,t_w,vals,rfl,h1⟩:=Z8T h
 obtain ⟨rfl,h2⟩:=Z90 h1
 obtain ⟨rfl,h3⟩:=Z90 h2
 exact (jpz w a_w t_w k).trans h3)
noncomputable def j6q:Code:=(Tryz.f66.body).getD .skip
noncomputable def jck:Env Unit:=⟨tys,[(65,jai),(155,jaK)],0⟩
noncomputable def j46 (t7:List qV) (t8:Int) (out:qL) (t9:Int) (rec:qL->Int->Res) (k0:qL->Res):Res:=
 bif decide (t9<t8) then
  bif inb t9 (List.length t7) then
   j5y (nth (0,0,eS) t7 t9) λ(r:qB)=>
    bif lim ((List.length out)+1) then
     rec (out++[r]) (Z8g (t9+1))
    else none
  else none
 else
  k0 out
noncomputable def j6J (t7:List qV) (t8:Int):(qL×Int)->(qL×Int->Res)->((qL->Res))->Res:=λv rec q=>j46 t7 t8 v.1 v.2 (λout t9=>rec (out,t9)) q
noncomputable def jbF (t7:List qV) (t8:Int) (n:Nat) (out:qL) (t9:Int) (k0:qL->Res):Res:=Z10 (j6J t7 t8) n (out,t9) (k0)
noncomputable def j7y:Z1l Unit:=λσ k=>rdN σ 21<|rdV σ 3 y9 false [.O] λout=>rdV σ 7 y3 false [.S] λt7=>rdV σ 8 (.int .i64) false [] λt8=>rdV σ 9 (.int .i64) false [] λt9=>jbF t7 t8 Z0Y out t9 (λ(out1:qL)=>k (.exit 0) (mkS 21 21 [(3,.val ⟨y9,false,out1,[.O]⟩)] []))
theorem jjN (t7:List qV) (t8:Int) (n:Nat) (v:qL×Int) (k:Z6G Unit):Z3X (Z0R jck [] .o (pl (pl (pr (pl (pr (pr j6q))))))) (λσ=>σ.forget [3,7,8,9] []) (Z8a ([],[]) [(0,[3],[])] ([],[])) n (mkS 21 21 [(3,.val ⟨y9,false,v.1,[.O]⟩),(7,.val ⟨y3,false,t7,[.S]⟩),(8,.val ⟨(.int .i64),false,t8,[]⟩),(9,.val ⟨(.int .i64),false,v.2,[]⟩)] []) k=Z10 (j6J t7 t8) n v ((λ(k:Z6G Unit)=>(((λ(out1:qL)=>k (.exit 0) (mkS 21 21 [(3,.val ⟨y9,false,out1,[.O]⟩)] []))):(qL->Res))) k):=Z80 (λv:qL×Int=>(mkS 21 21 [(3,.val ⟨y9,false,v.1,[.O]⟩),(7,.val ⟨y3,false,t7,[.S]⟩),(8,.val ⟨(.int .i64),false,t8,[]⟩),(9,.val ⟨(.int .i64),false,v.2,[]⟩)] [])) (j6J t7 t8) (λ(k:Z6G Unit)=>(((λ(out1:qL)=>k (.exit 0) (mkS 21 21 [(3,.val ⟨y9,false,out1,[.O]⟩)] []))):(qL->Res))) (λv rec k=>by kernel_rfl) n v k
theorem jkf {W0:Base} {M:Nat->Prop} (hnp:W0.np<=0):Z1W Tryz.prog W0 M (pl (pr (pl (pr (pr j6q))))) j7y:=show Z1W Tryz.prog W0 M (Code.loop (pl (pl (pr (pl (pr (pr j6q))))))) j7y from Z8X (Z6Q follows j00 (Z7K (Z8C j7I (Z8C j2N Z8W))) hnp [] (pl (pl (pr (pl (pr (pr j6q)))))) .o trivial) (ks:=[3,7,8,9]) (bs:=[]) (fX:=(Z8a ([],[]) [(0,[3],[])] ([],[]))) (Z8U _ _ _) Z0Y (by
 intro σ k r h
 obtain ⟨hn,h1⟩:=Z8G h
 obtain ⟨out,hs3,h2⟩:=Z8J h1
 obtain ⟨t7,hs7,h3⟩:=Z8J h2
 obtain ⟨t8,hs8,h4⟩:=Z8J h3
 obtain ⟨t9,hs9,h5⟩:=Z8J h4
 refine ⟨_,?_,(jjN t7 t8 Z0Y (out,t9) k).trans h5⟩
 exact Z9e hn ⟨hs3,hs7,hs8,hs9,trivial⟩ trivial)
noncomputable def j3C (l:List qV) (k0:qB->Res):Res:=
 jbF l (nI (List.length l)) Z0Y [] 0 λ(out:qL)=>
  j1h out λ(r:qB)=>
   k0 r
noncomputable def jfP:Sig Unit:=⟨[.look y3 false],[false],λvals ext k=>av vals y3 λl vals=>nl vals<|nl ext<|j3C l (λ(r0:qB)=>k [⟨.str,false,r0,[]⟩] [] [])⟩
theorem jmQ (l:List qV) (a_l:Bool) (t_l:List Tag) (k:qK):Z6X jck [j7y] (.t .o (.t .o (.t (.t .o (.t (.x 0) .o)) .o))) false Tryz.f66 [.look y3 false] [false] [⟨y3,a_l,l,t_l⟩] [] k=j3C l (λ(r0:qB)=>k [⟨.str,false,r0,[]⟩] [] []):=by kernel_rfl
theorem jn7:Z1k Tryz.prog 66 jfP:=Z8N (Γ:=jck) (X:=[j7y]) (ht:=(.t .o (.t .o (.t (.t .o (.t (.x 0) .o)) .o)))) (fz:=false) (c:=j6q) follows j00 (Z8C j7I (Z8C j2N Z8W)) (Z1A.mk trivial ((Z1A.mk trivial ((Z1A.mk ((Z1A.mk trivial ((Z1A.mk (Z1A.x_mk (λW0 M hnp=>jkf (W0:=W0) (M:=M) hnp)) trivial)))) trivial))))) Tryz.func66 (by kernel_rfl) (by kernel_rfl) (by decide) (by
 intro vals ext k r h
 obtain ⟨l,a_l,t_l,vals,rfl,h1⟩:=Z8T h
 obtain ⟨rfl,h2⟩:=Z90 h1
 obtain ⟨rfl,h3⟩:=Z90 h2
 exact (jmQ l a_l t_l k).trans h3)
noncomputable def jnb:Code:=(Tryz.f12.body).getD .skip
noncomputable def jfr:Env Unit:=⟨tys,[(58,jed),(65,jai),(66,jfP),(67,jdy)],0⟩
noncomputable def j4y (s:qS) (k0:qB->Res):Res:=
 j9b s λ(r:Bool)=>
  bif !r then
   k0 eS
  else
   bif (s.1==1) then
    j3C s.2.2.2.1 λ(r1:qB)=>
     j1h [j10,s.2.1,r1] λ(r2:qB)=>
      k0 r2
   else
    bif (s.1==2) then
     j3C s.2.2.1 λ(r3:qB)=>
      j3C s.2.2.2.1 λ(r4:qB)=>
       j1h [j0J,s.2.1,r3,j1I,r4] λ(r5:qB)=>
        k0 r5
    else
     bif (s.1==3) then
      j3C s.2.2.1 λ(r6:qB)=>
       j1h [j0Z,s.2.1,r6] λ(r7:qB)=>
        k0 r7
     else
      bif (s.1==4) then
       bif lim (6+(ByteArray.size s.2.1)) then
        k0 (jht++s.2.1)
       else none
      else
       j3d s.2.2.2.2 λ(r8:qB)=>
        k0 r8
noncomputable def jcH:Sig Unit:=⟨[.look y18 true],[false],λvals ext k=>av vals y18 λs vals=>nl vals<|nl ext<|j4y s (λ(r0:qB)=>k [⟨.str,false,r0,[]⟩] [] [])⟩
theorem jmH (s:qS) (a_s:Bool) (t_s:List Tag) (k:qK):Z6X jfr [] .o false Tryz.f12 [.look y18 true] [false] [⟨y18,a_s,s,t_s⟩] [] k=j4y s (λ(r0:qB)=>k [⟨.str,false,r0,[]⟩] [] []):=by kernel_rfl
theorem j9o:Z1k Tryz.prog 12 jcH:=Z8N (Γ:=jfr) (X:=[]) (ht:= .o) (fz:=false) (c:=jnb) follows j00 (Z8C jhv (Z8C j7I (Z8C jn7 (Z8C jao Z8W)))) trivial Tryz.func12 (by kernel_rfl) (by kernel_rfl) (by decide) (by
 intro vals ext k r h
 obtain ⟨s,a_s,t_s,vals,rfl,h1⟩:=Z8T h
 obtain ⟨rfl,h2⟩:=Z90 h1
 obtain ⟨rfl,h3⟩:=Z90 h2
 exact (jmH s a_s t_s k).trans h3)
noncomputable def j9s:Code:=(Tryz.f15.body).getD .skip
noncomputable def jci:Env Unit:=⟨tys,[(12,jcH),(78,jgC),(79,jah),(80,jhS),(81,j2Y)],0⟩
noncomputable def j8l (rest:qL) (t34:qB) (x:qS) (k0:qS->Res):Res:=
 bif sEq t34 j10 then
  j3a rest λ(r:List qV)=>
   k0 (1,x.2.1,x.2.2.1,r,x.2.2.2.2)
 else
  bif sEq t34 j0J then
   j0P rest j1I λ(r1:Int)=>
    bif decide (r1>=0) then
     bif Z6R 0 r1 (List.length rest) then
      j3a (sub rest 0 r1) λ(r2:List qV)=>
       bif Z6R (Z8g (r1+1)) (nI (List.length rest)) (List.length rest) then
        j3a (sub rest (Z8g (r1+1)) (nI (List.length rest))) λ(r3:List qV)=>
         k0 (2,x.2.1,r2,r3,x.2.2.2.2)
       else none
     else none
    else
     k0 (2,x.2)
  else
   bif sEq t34 j0Z then
    j3a rest λ(r4:List qV)=>
     k0 (3,x.2.1,r4,x.2.2.2)
   else
    bif sEq t34 j21 then
     k0 (4,x.2)
    else
     k0 x
noncomputable def jb9:Z1l Unit:=λσ k=>rdN σ 76<|rdV σ 0 .str false [] λs=>rdT σ 2 (.ptr ⟨true,2,[]⟩)<|rdT σ 7 (.ptr ⟨true,7,[]⟩)<|rdV σ 8 y9 false [.S] λrest=>rdV σ 34 .str false [] λt34=>rdB σ 2 y18 [.O,.O,.O,.O] λa t2=>rdB σ 7 y18 [.O,.O,.O,.O] λa1 x=>j8l rest t34 x (λ(x1:qS)=>k .normal (mkS 76 76 [(0,.val ⟨.str,false,s,[]⟩),(2,.ptr ⟨true,2,[]⟩),(7,.ptr ⟨true,7,[]⟩)] [(2,⟨y18,a,t2,[.O,.O,.O,.O]⟩),(7,⟨y18,a1,x1,[.O,.O,.O,.O]⟩)]))
theorem jjL (s:qB) (rest:qL) (t34:qB) (a:Bool) (t2:qS) (a1:Bool) (x:qS) (k:Z6G Unit):Z0R jci [] .o (pr (pl (pr (pr (pr (pr (pr (pr j9s)))))))) (mkS 76 76 [(0,.val ⟨.str,false,s,[]⟩),(2,.ptr ⟨true,2,[]⟩),(7,.ptr ⟨true,7,[]⟩),(8,.val ⟨y9,false,rest,[.S]⟩),(34,.val ⟨.str,false,t34,[]⟩)] [(2,⟨y18,a,t2,[.O,.O,.O,.O]⟩),(7,⟨y18,a1,x,[.O,.O,.O,.O]⟩)]) (λe σ=>k e ((Z8a ([0,2,7],[2,7]) [] ([],[])) e σ))=j8l rest t34 x (λ(x1:qS)=>k .normal (mkS 76 76 [(0,.val ⟨.str,false,s,[]⟩),(2,.ptr ⟨true,2,[]⟩),(7,.ptr ⟨true,7,[]⟩)] [(2,⟨y18,a,t2,[.O,.O,.O,.O]⟩),(7,⟨y18,a1,x1,[.O,.O,.O,.O]⟩)])):=by kernel_rfl
theorem jkd {W0:Base} {M:Nat->Prop} (hnp:W0.np<=0):Z1W Tryz.prog W0 M (pr (pl (pr (pr (pr (pr (pr (pr j9s)))))))) jb9:=Z91 (Z6Q follows j00 (Z7K (Z8C j9o (Z8C jgg (Z8C j22 (Z8C jhy (Z8C j0C Z8W)))))) hnp [] ((pr (pl (pr (pr (pr (pr (pr (pr j9s))))))))) .o trivial) (fg:=(Z8a ([0,2,7],[2,7]) [] ([],[]))) (Z8U _ _ _) (by
 intro σ k r h
 obtain ⟨hn,h1⟩:=Z8G h
 obtain ⟨s,hs0,h2⟩:=Z8J h1
 obtain ⟨hs2,h3⟩:=Z8H h2
 obtain ⟨hs7,h4⟩:=Z8H h3
 obtain ⟨rest,hs8,h5⟩:=Z8J h4
 obtain ⟨t34,hs34,h6⟩:=Z8J h5
 obtain ⟨a,t2,hb2,h7⟩:=Z8D h6
 obtain ⟨a1,x,hb7,h8⟩:=Z8D h7
 refine ⟨_,?_,(jjL s rest t34 a t2 a1 x k).trans h8⟩
 exact Z9e hn ⟨hs0,hs2,hs7,hs8,hs34,trivial⟩ ⟨hb2,hb7,trivial⟩)
noncomputable def j68 (s:qB) (k0:qS->Bool->Res):Res:=
 jab s λ(r:qG) (r1:Bool)=>
  bif r1 then
   k0 (5,r.2.1,[],[],r) true
  else
   j6G s λ(r2:qL)=>
    bif decide ((nI (List.length r2))<2) then
     k0 (0,eS,[],[],0,eS,[],[],eS,eS) false
    else
     bif inb 1 (List.length r2) then
      bif Z6R 2 (nI (List.length r2)) (List.length r2) then
       bif inb 0 (List.length r2) then
        j8l (sub r2 2 (nI (List.length r2))) (nth eS r2 0) (0,nth eS r2 1,[],[],0,eS,[],[],eS,eS) λ(x:qS)=>
         j4y x λ(r3:qB)=>
          bif sNe r3 s then
           k0 (0,eS,[],[],0,eS,[],[],eS,eS) false
          else
           k0 x true
       else none
      else none
     else none
noncomputable def jfK:Sig Unit:=⟨[.borrow .str false],[true,false],λvals ext k=>av vals .str λs vals=>nl vals<|nl ext<|j68 s (λ(r0:qS) (r1:Bool)=>k [⟨y18,true,r0,[.O,.O,.O,.O]⟩,⟨.bool,false,r1,[]⟩] [] [])⟩
theorem jmJ (s:qB) (a_s:Bool) (t_s:List Tag) (k:qK):Z6X jci [jb9] (.t .o (.t .o (.t .o (.t .o (.t .o (.t .o (.t (.t .o (.x 0)) .o))))))) false Tryz.f15 [.borrow .str false] [true,false] [⟨.str,a_s,s,t_s⟩] [] k=j68 s (λ(r0:qS) (r1:Bool)=>k [⟨y18,true,r0,[.O,.O,.O,.O]⟩,⟨.bool,false,r1,[]⟩] [] []):=by kernel_rfl
theorem jfi:Z1k Tryz.prog 15 jfK:=Z8N (Γ:=jci) (X:=[jb9]) (ht:=(.t .o (.t .o (.t .o (.t .o (.t .o (.t .o (.t (.t .o (.x 0)) .o)))))))) (fz:=false) (c:=j9s) follows j00 (Z8C j9o (Z8C jgg (Z8C j22 (Z8C jhy (Z8C j0C Z8W))))) (Z1A.mk trivial ((Z1A.mk trivial ((Z1A.mk trivial ((Z1A.mk trivial ((Z1A.mk trivial ((Z1A.mk trivial ((Z1A.mk ((Z1A.mk trivial (Z1A.x_mk (λW0 M hnp=>jkd (W0:=W0) (M:=M) hnp)))) trivial))))))))))))) Tryz.func15 (by kernel_rfl) (by kernel_rfl) (by decide) (by
 intro vals ext k r h
 obtain ⟨s,a_s,t_s,vals,rfl,h1⟩:=Z8T h
 obtain ⟨rfl,h2⟩:=Z90 h1
 obtain ⟨rfl,h3⟩:=Z90 h2
 exact (jmJ s a_s t_s k).trans h3)
end Go.PI.G
