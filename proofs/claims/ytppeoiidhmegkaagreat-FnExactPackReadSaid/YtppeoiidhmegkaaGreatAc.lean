/-
  Program's code interpreted over typed values; printed texts; plain laws. No conditions.
-/
import Derived.Test.YtppeoiidhmegkaaGreatAa
import Derived.Test.YtppeoiidhmegkaaGreatAb
set_option linter.unusedVariables false
set_option maxRecDepth 100000
namespace Go.PI.G
open Go Go.PI Go.Proofs
open Go.Code (pl pr)
theorem j9Y:Fns Tryz.prog [(61,j0f),(63,j0l)]:=(Z8K j2N (Z8K j47 Z94))
noncomputable def j1A (n_:Int) (out:qL) (i:Int) (e0:List Int×Int) (rec:qL->Int->(List Int×Int)->Res) (k0:qL->(List Int×Int)->Res):Res:=
 bif decide (i<n_) then
  bif decide (i<=8) then
   j01 1 e0 λ(r:Int) (bt26:List Int×Int)=>
    j02 r bt26 λ(r1:qB) (bt261:List Int×Int)=>
     bif lim ((List.length out)+1) then
      rec (out++[r1]) (Z8o (i+1)) bt261
     else none
  else
   k0 out e0
 else
  k0 out e0
noncomputable def j43 (n_:Int):(qL×Int×(List Int×Int))->(qL×Int×(List Int×Int)->Res)->((qL->(List Int×Int)->Res))->Res:=λv rec q=>j1A n_ v.1 v.2.1 v.2.2 (λout i e0=>rec (out,i,e0)) q
noncomputable def j7t (n_:Int) (n:Nat) (out:qL) (i:Int) (e0:List Int×Int) (k0:qL->(List Int×Int)->Res):Res:=Z14 (j43 n_) n (out,i,e0) (k0)
noncomputable def j6V:Z1q Unit:=λσ k=>rdN σ 26<|rdT σ 0 (pB 26)<|rd1 σ 3 y9 .O λout=>rdI σ 4 λn_=>rdI σ 5 λi=>rdB σ 26 y24 [.S] λa e0=>j7t n_ Z12 out i e0 (λ(out1:qL) (e01:List Int×Int)=>k (.exit 0) (mkS 26 27 [(3,v1 y9 out1 .O)] [(26,⟨y24,a,e01,[.S]⟩)]))
theorem jcf {W0:Base} {M:Nat->Prop} (hnp:W0.np<=0):Z22 Tryz.prog W0 M (cAt 122 (bo Tryz.f64)) j6V:=j0b follows j00 j9Y hnp [] oN [0,3,4,5] [26] ([],[]) [(0,[3],[26])] ([],[]) λσ k _ h=>rN h λhn h=>rT h λh0 h=>rV h λout h3 h=>rV h λn_ h4 h=>rV h λi h5 h=>rB h λa e0 hb26 h=>⟨_,Z9m (m:=27) hn (sC h0 (sC h3 (sC h4 (sC h5 sN)))) (bC hb26 bN),.trans (Z88 (λv:qL×Int×(List Int×Int)=>(mkS 26 27 [(0,pB 26),(3,v1 y9 v.1 .O),(4,vI n_),(5,vI v.2.1)] [(26,⟨y24,a,v.2.2,[.S]⟩)])) (j43 n_) (λ(k:Z6O Unit)=>(((λ(out1:qL) (e01:List Int×Int)=>k (.exit 0) (mkS 26 27 [(3,v1 y9 out1 .O)] [(26,⟨y24,a,e01,[.S]⟩)]))):(qL->(List Int×Int)->Res))) (λv rec k=>by delta j43 j1A j0f j0l;refine gz j01 λ_ e=> ?_;rewrite [<-e];refine gz j02 λ_ e=> ?_;rewrite [<-e];kernel_rfl) Z12 (out,i,e0) k) h⟩
noncomputable def j26 (e0:List Int×Int) (k0:qL->(List Int×Int)->Res):Res:=
 j01 1 e0 λ(r:Int) (bt26:List Int×Int)=>
  j7t r Z12 [] 0 bt26 λ(out:qL) (e:List Int×Int)=>
   k0 out e
noncomputable def j85:Sig Unit:=⟨[.ptr y24],[false],λvals ext k=>nl vals<|ab ext y24 [.S] λa e0 ext=>nl ext<|j26 e0 (λ(r0:qL) (x0:List Int×Int)=>k [w1 y9 r0 .O] [] [⟨y24,a,x0,[.S]⟩])⟩
theorem jdr:Z1p Tryz.prog 64 j85:=j04 (np:=0) follows j00 j9Y [j6V] (oI 122 0 (jcf) oN) false Tryz.func64 λ_ _ k _ h=>nL h λ_ h=>aB h λ_ _ _ _ h=>nL h λ_ h=>by subst_vars;exact .trans (by delta j26 j0f j6V;refine gz j01 λ_ e=> ?_;rewrite [<-e];refine gz j7t λ_ e=> ?_;rewrite [<-e];kernel_rfl) h
noncomputable def j27 (t5:qL) (t6:Int) (t7:Int) (rec:Int->Res) (k0:Unit->Res) (k1:Unit->Res):Res:=
 bif decide (t7<t6) then
  bif inb t7 (List.length t5) then
   j0o (nth eS t5 t7) λ(r:Bool)=>
    bif !r then
     k1 ()
    else
     rec (Z8o (t7+1))
  else none
 else
  k0 ()
noncomputable def j5u (t5:qL) (t6:Int):Int->(Int->Res)->((Unit->Res)×(Unit->Res))->Res:=λv rec q=>j27 t5 t6 v (λt7=>rec (t7)) q.1 q.2
noncomputable def j6P (t5:qL) (t6:Int) (n:Nat) (t7:Int) (k0:Unit->Res) (k1:Unit->Res):Res:=Z14 (j5u t5 t6) n (t7) (k0,k1)
noncomputable def j8N:Z1q Unit:=λσ k=>rdN σ 18<|rd1 σ 0 y9 .S λl=>rd1 σ 5 y9 .S λt5=>rdI σ 6 λt6=>rdI σ 7 λt7=>j6P t5 t6 Z12 t7 (λ(_:Unit)=>k (.exit 0) (mkS 18 18 [(0,v1 y9 l .S)] [])) (λ(_:Unit)=>k .ret (mkS 18 18 [(2,vB false)] []))
theorem jbH {W0:Base} {M:Nat->Prop} (hnp:W0.np<=0):Z22 Tryz.prog W0 M (cAt 26 (bo Tryz.f131)) j8N:=j0b follows j00 (Z8K j2g Z94) hnp [] oN [0,5,6,7] [] ([],[]) [(0,[0],[])] ([2],[]) λσ k _ h=>rN h λhn h=>rV h λl h0 h=>rV h λt5 h5 h=>rV h λt6 h6 h=>rV h λt7 h7 h=>⟨_,Z9m (m:=18) hn (sC h0 (sC h5 (sC h6 (sC h7 sN)))) bN,.trans (Z88 (λv:Int=>(mkS 18 18 [(0,v1 y9 l .S),(5,v1 y9 t5 .S),(6,vI t6),(7,vI v)] [])) (j5u t5 t6) (λ(k:Z6O Unit)=>(((λ(_:Unit)=>k (.exit 0) (mkS 18 18 [(0,v1 y9 l .S)] [])),(λ(_:Unit)=>k .ret (mkS 18 18 [(2,vB false)] []))):(Unit->Res)×(Unit->Res))) (λv rec k=>by kernel_rfl) Z12 (t7) k) h⟩
noncomputable def j3s (l:qL) (k0:Bool->Res):Res:=
 j6P l (nI (List.length l)) Z12 0
  (λ(_:Unit)=>
   k0 (decide ((nI (List.length l))<=8)))
  (λ(_:Unit)=>
   k0 false)
noncomputable def j7p:Sig Unit:=⟨[.look y9 false],[false],λvals ext k=>av vals y9 λl vals=>nl vals<|nl ext<|j3s l (λ(r0:Bool)=>k [wB r0] [] [])⟩
theorem jcD:Z1p Tryz.prog 131 j7p:=j04 (np:=0) follows j00 (Z8K j2g Z94) [j8N] (oI 26 0 (jbH) oN) false Tryz.func131 λ_ _ k _ h=>aV h λ_ _ _ _ _ h=>nL h λ_ h=>nL h λ_ h=>by subst_vars;exact .trans (by kernel_rfl) h
theorem j7J:Fns Tryz.prog [(30,j6p),(131,j7p)]:=(Z8K jaz (Z8K jcD Z94))
noncomputable def j3H (b:Int×Int×List (qS×qL×qL)) (k0:Bool->Res):Res:=
 bif decide (b.1<1) then
  k0 true
 else
  bif decide (b.1>400) then
   k0 true
  else
   bif decide (b.2.1<0) then
    k0 true
   else
    bif decide (b.2.1>=b.1) then
     k0 true
    else
     k0 (decide ((nI (List.length b.2.2))>60))
noncomputable def j4F:Z1q Unit:=λσ k=>rdN σ 55<|rdT σ 1 (pB 1)<|rdB σ 1 y23 [.S] λa b=>j3H b (λ(t30:Bool)=>k .normal (mkS 55 55 [(1,pB 1),(30,vB t30)] [(1,⟨y23,a,b,[.S]⟩)]))
theorem jc8 {W0:Base} {M:Nat->Prop} (hnp:W0.np<=0):Z22 Tryz.prog W0 M (cAt 12 (bo Tryz.f43)) j4F:=j0P follows j00 j7J hnp [] oN ([1,30],[1]) [] ([],[]) λσ k _ h=>rN h λhn h=>rT h λh1 h=>rB h λa b hb1 h=>⟨_,Z9m (m:=55) hn (sC h1 sN) (bC hb1 bN),.trans (by kernel_rfl) h⟩
noncomputable def j1y (t32:List (qS×qL×qL)) (t33:Int) (t34:Int) (rec:Int->Res) (k0:Unit->Res) (k1:Unit->Res):Res:=
 bif decide (t34<t33) then
  bif inb t34 (List.length t32) then
   j2M (nth ((0,eS,[],[],0,eS,[],[],eS,eS),[],[]) t32 t34).1 λ(r:Bool)=>
    bif !r then
     k1 ()
    else
     j3s (nth ((0,eS,[],[],0,eS,[],[],eS,eS),[],[]) t32 t34).2.1 λ(r1:Bool)=>
      bif !r1 then
       k1 ()
      else
       j3s (nth ((0,eS,[],[],0,eS,[],[],eS,eS),[],[]) t32 t34).2.2 λ(r2:Bool)=>
        bif !r2 then
         k1 ()
        else
         rec (Z8o (t34+1))
  else none
 else
  k0 ()
noncomputable def j41 (t32:List (qS×qL×qL)) (t33:Int):Int->(Int->Res)->((Unit->Res)×(Unit->Res))->Res:=λv rec q=>j1y t32 t33 v (λt34=>rec (t34)) q.1 q.2
noncomputable def j5c (t32:List (qS×qL×qL)) (t33:Int) (n:Nat) (t34:Int) (k0:Unit->Res) (k1:Unit->Res):Res:=Z14 (j41 t32 t33) n (t34) (k0,k1)
noncomputable def j6S:Z1q Unit:=λσ k=>rdN σ 55<|rd1 σ 32 y21 .S λt32=>rdI σ 33 λt33=>rdI σ 34 λt34=>j5c t32 t33 Z12 t34 (λ(_:Unit)=>k (.exit 0) (mkS 55 55 [] [])) (λ(_:Unit)=>k .ret (mkS 55 55 [(2,vB false)] []))
theorem jc7 {W0:Base} {M:Nat->Prop} (hnp:W0.np<=0):Z22 Tryz.prog W0 M (cAt 58 (bo Tryz.f43)) j6S:=j0b follows j00 j7J hnp [j4F] oN [32,33,34] [] ([],[]) [(0,[],[])] ([2],[]) λσ k _ h=>rN h λhn h=>rV h λt32 h32 h=>rV h λt33 h33 h=>rV h λt34 h34 h=>⟨_,Z9m (m:=55) hn (sC h32 (sC h33 (sC h34 sN))) bN,.trans (Z88 (λv:Int=>(mkS 55 55 [(32,v1 y21 t32 .S),(33,vI t33),(34,vI v)] [])) (j41 t32 t33) (λ(k:Z6O Unit)=>(((λ(_:Unit)=>k (.exit 0) (mkS 55 55 [] [])),(λ(_:Unit)=>k .ret (mkS 55 55 [(2,vB false)] []))):(Unit->Res)×(Unit->Res))) (λv rec k=>by delta j41 j1y j6p j7p;refine gz j2M λ_ e=> ?_;rewrite [<-e];refine gz j3s λ_ e=> ?_;rewrite [<-e];kernel_rfl) Z12 (t34) k) h⟩
noncomputable def j4j (b:Int×Int×List (qS×qL×qL)) (k0:Bool->Res):Res:=
 j3H b λ(t:Bool)=>
  bif t then
   k0 false
  else
   j5c b.2.2 (nI (List.length b.2.2)) Z12 0
    (λ(_:Unit)=>
     k0 true)
    (λ(_:Unit)=>
     k0 false)
noncomputable def j80:Sig Unit:=⟨[.look y23 true],[false],λvals ext k=>av vals y23 λb vals=>nl vals<|nl ext<|j4j b (λ(r0:Bool)=>k [wB r0] [] [])⟩
theorem jdm:Z1p Tryz.prog 43 j80:=j04 (np:=0) follows j00 j7J [j4F,j6S] (oI 12 0 (jc8) (oI 58 1 (jc7) oN)) false Tryz.func43 λ_ _ k _ h=>aV h λ_ _ _ _ _ h=>nL h λ_ h=>nL h λ_ h=>by subst_vars;exact .trans (by delta j4j j4F j6S;refine gz j3H λ_ e=> ?_;rewrite [<-e];refine gz j5c λ_ e=> ?_;rewrite [<-e];kernel_rfl) h
noncomputable def j38 (t13:qL) (t14:Int) (b:List Int) (t15:Int) (rec:(List Int)->Int->Res) (k0:(List Int)->Res):Res:=
 bif decide (t15<t14) then
  bif inb t15 (List.length t13) then
   j0D b (nth eS t13 t15) λ(r:List Int)=>
    rec r (Z8o (t15+1))
  else none
 else
  k0 b
noncomputable def j6O (t13:qL) (t14:Int):((List Int)×Int)->((List Int)×Int->Res)->(((List Int)->Res))->Res:=λv rec q=>j38 t13 t14 v.1 v.2 (λb t15=>rec (b,t15)) q
noncomputable def j89 (t13:qL) (t14:Int) (n:Nat) (b:List Int) (t15:Int) (k0:(List Int)->Res):Res:=Z14 (j6O t13 t14) n (b,t15) (k0)
noncomputable def j9G:Z1q Unit:=λσ k=>rdN σ 24<|rd1 σ 0 y0 .O λb=>rd1 σ 13 y9 .S λt13=>rdI σ 14 λt14=>rdI σ 15 λt15=>j89 t13 t14 Z12 b t15 (λ(b1:List Int)=>k (.exit 0) (mkS 24 24 [(0,v1 y0 b1 .O)] []))
theorem jd6 {W0:Base} {M:Nat->Prop} (hnp:W0.np<=0):Z22 Tryz.prog W0 M (cAt 58 (bo Tryz.f171)) j9G:=j0b follows j00 (Z8K j5C Z94) hnp [] oN [0,13,14,15] [] ([],[]) [(0,[0],[])] ([],[]) λσ k _ h=>rN h λhn h=>rV h λb h0 h=>rV h λt13 h13 h=>rV h λt14 h14 h=>rV h λt15 h15 h=>⟨_,Z9m (m:=24) hn (sC h0 (sC h13 (sC h14 (sC h15 sN)))) bN,.trans (Z88 (λv:(List Int)×Int=>(mkS 24 24 [(0,v1 y0 v.1 .O),(13,v1 y9 t13 .S),(14,vI t14),(15,vI v.2)] [])) (j6O t13 t14) (λ(k:Z6O Unit)=>(((λ(b1:List Int)=>k (.exit 0) (mkS 24 24 [(0,v1 y0 b1 .O)] []))):((List Int)->Res))) (λv rec k=>by kernel_rfl) Z12 (b,t15) k) h⟩
noncomputable def j4X (b:List Int) (l:qL) (k0:(List Int)->Res):Res:=
 bif lim ((List.length b)+1) then
  j89 l (nI (List.length l)) Z12 (b++[wu8 (nI (List.length l))]) 0 λ(b1:List Int)=>
   k0 b1
 else none
noncomputable def j8y:Sig Unit:=⟨[.eat y0 false,.borrow y9 false],[false],λvals ext k=>ao vals y0 [.O] λb vals=>av vals y9 λl vals=>nl vals<|nl ext<|j4X b l (λ(r0:List Int)=>k [w1 y0 r0 .O] [] [])⟩
theorem jef:Z1p Tryz.prog 171 j8y:=j04 (np:=0) follows j00 (Z8K j5C Z94) [j9G] (oI 58 0 (jd6) oN) false Tryz.func171 λ_ _ k _ h=>aO h λ_ _ _ _ h=>aV h λ_ _ _ _ _ h=>nL h λ_ h=>nL h λ_ h=>by subst_vars;exact .trans (by kernel_rfl) h
theorem jar:Fns Tryz.prog [(43,j80),(169,j30),(170,j3q),(171,j8y),(172,jam)]:=(Z8K jdm (Z8K j93 (Z8K jay (Z8K jef (Z8K jfm Z94)))))
noncomputable def j1S (t36:List (qS×qL×qL)) (t37:Int) (b:List Int) (t38:Int) (rec:(List Int)->Int->Res) (k0:(List Int)->Res):Res:=
 bif decide (t38<t37) then
  bif inb t38 (List.length t36) then
   j0E (nth ((0,eS,[],[],0,eS,[],[],eS,eS),[],[]) t36 t38).1 λ(r:List Int) (r1:Bool)=>
    j0h b (nI (List.length r)) 2 λ(r2:List Int) (r3:Bool)=>
     bif lim ((List.length r2)+(List.length r)) then
      j4X (r2++r) (nth ((0,eS,[],[],0,eS,[],[],eS,eS),[],[]) t36 t38).2.1 λ(r4:List Int)=>
       j4X r4 (nth ((0,eS,[],[],0,eS,[],[],eS,eS),[],[]) t36 t38).2.2 λ(r5:List Int)=>
        rec r5 (Z8o (t38+1))
     else none
  else none
 else
  k0 b
noncomputable def j4B (t36:List (qS×qL×qL)) (t37:Int):((List Int)×Int)->((List Int)×Int->Res)->(((List Int)->Res))->Res:=λv rec q=>j1S t36 t37 v.1 v.2 (λb t38=>rec (b,t38)) q
noncomputable def j5U (t36:List (qS×qL×qL)) (t37:Int) (n:Nat) (b:List Int) (t38:Int) (k0:(List Int)->Res):Res:=Z14 (j4B t36 t37) n (b,t38) (k0)
noncomputable def j7C:Z1q Unit:=λσ k=>rdN σ 74<|rdT σ 2 (pB 2)<|rd1 σ 4 y0 .O λb=>rd1 σ 36 y21 .S λt36=>rdI σ 37 λt37=>rdI σ 38 λt38=>rdB σ 2 y0 [.O] λa t2=>j5U t36 t37 Z12 b t38 (λ(b1:List Int)=>k (.exit 0) (mkS 74 74 [(2,pB 2),(4,v1 y0 b1 .O)] [(2,⟨y0,a,t2,[.O]⟩)]))
theorem jcX {W0:Base} {M:Nat->Prop} (hnp:W0.np<=0):Z22 Tryz.prog W0 M (cAt 506 (bo Tryz.f65)) j7C:=j0b follows j00 jar hnp [] oN [2,4,36,37,38] [2] ([],[]) [(0,[2,4],[2])] ([],[]) λσ k _ h=>rN h λhn h=>rT h λh2 h=>rV h λb h4 h=>rV h λt36 h36 h=>rV h λt37 h37 h=>rV h λt38 h38 h=>rB h λa t2 hb2 h=>⟨_,Z9m (m:=74) hn (sC h2 (sC h4 (sC h36 (sC h37 (sC h38 sN))))) (bC hb2 bN),.trans (Z88 (λv:(List Int)×Int=>(mkS 74 74 [(2,pB 2),(4,v1 y0 v.1 .O),(36,v1 y21 t36 .S),(37,vI t37),(38,vI v.2)] [(2,⟨y0,a,t2,[.O]⟩)])) (j4B t36 t37) (λ(k:Z6O Unit)=>(((λ(b1:List Int)=>k (.exit 0) (mkS 74 74 [(2,pB 2),(4,v1 y0 b1 .O)] [(2,⟨y0,a,t2,[.O]⟩)]))):((List Int)->Res))) (λv rec k=>by delta j4B j1S j30 j3q j8y;refine gz j0E λ_ e=> ?_;rewrite [<-e];refine gz j0h λ_ e=> ?_;rewrite [<-e];refine gz j4X λ_ e=> ?_;rewrite [<-e];kernel_rfl) Z12 (b,t38) k) h⟩
noncomputable def j3X (x:Int×Int×List (qS×qL×qL)) (k0:(List Int)->Bool->Res):Res:=
 j4j x λ(r:Bool)=>
  bif !r then
   k0 [] false
  else
   j0h [80] x.1 2 λ(r1:List Int) (r2:Bool)=>
    j0h r1 x.2.1 2 λ(r3:List Int) (r4:Bool)=>
     bif lim ((List.length r3)+1) then
      j5U x.2.2 (nI (List.length x.2.2)) Z12 (r3++[wu8 (nI (List.length x.2.2))]) 0 λ(b:List Int)=>
       j6K b λ(r5:Int)=>
        j0h b r5 3 λ(r6:List Int) (r7:Bool)=>
         k0 r6 true
     else none
noncomputable def j8x:Sig Unit:=⟨[.borrow y23 true],[true,false],λvals ext k=>av vals y23 λx vals=>nl vals<|nl ext<|j3X x (λ(r0:List Int) (r1:Bool)=>k [⟨y0,true,r0,[.O]⟩,wB r1] [] [])⟩
theorem jec:Z1p Tryz.prog 65 j8x:=j04 (np:=0) follows j00 jar [j7C] (oI 506 0 (jcX) oN) false Tryz.func65 λ_ _ k _ h=>aV h λ_ _ _ _ _ h=>nL h λ_ h=>nL h λ_ h=>by subst_vars;exact .trans (by delta j3X j80 j3q j7C jam;refine gz j4j λ_ e=> ?_;rewrite [<-e];refine gz j0h λ_ e=> ?_;rewrite [<-e];refine gz j5U λ_ e=> ?_;rewrite [<-e];refine gz j6K λ_ e=> ?_;rewrite [<-e];kernel_rfl) h
theorem j9q:Fns Tryz.prog [(61,j0f),(62,j7l),(63,j0l),(64,j85),(65,j8x)]:=(Z8K j2N (Z8K jcA (Z8K j47 (Z8K jdr (Z8K jec Z94)))))
noncomputable def j1g (n_:Int) (i:Int) (x:Int×Int×List (qS×qL×qL)) (t16:List Int×Int) (rec:Int->(Int×Int×List (qS×qL×qL))->(List Int×Int)->Res) (k0:(Int×Int×List (qS×qL×qL))->Res):Res:=
 bif decide (i<n_) then
  bif decide (i<=60) then
   j01 2 t16 λ(r:Int) (bt16:List Int×Int)=>
    j02 r bt16 λ(r1:qB) (bt161:List Int×Int)=>
     bif lim (ByteArray.size r1) then
      j13 (Z1e r1) λ(r2:qS) (r3:Bool)=>
       j26 bt161 λ(r4:qL) (bt162:List Int×Int)=>
        j26 bt162 λ(r5:qL) (bt163:List Int×Int)=>
         bif lim ((List.length x.2.2)+1) then
          rec (Z8o (i+1)) (x.1,x.2.1,(x.2.2++[(r2,r4,r5)])) bt163
         else none
     else none
  else
   k0 x
 else
  k0 x
noncomputable def j3K (n_:Int):(Int×(Int×Int×List (qS×qL×qL))×(List Int×Int))->(Int×(Int×Int×List (qS×qL×qL))×(List Int×Int)->Res)->(((Int×Int×List (qS×qL×qL))->Res))->Res:=λv rec q=>j1g n_ v.1 v.2.1 v.2.2 (λi x t16=>rec (i,x,t16)) q
noncomputable def j6H (n_:Int) (n:Nat) (i:Int) (x:Int×Int×List (qS×qL×qL)) (t16:List Int×Int) (k0:(Int×Int×List (qS×qL×qL))->Res):Res:=Z14 (j3K n_) n (i,x,t16) (k0)
noncomputable def j69:Z1q Unit:=λσ k=>rdN σ 74<|rdT σ 1 (pB 1)<|rdT σ 2 (pB 2)<|rdT σ 4 (pB 16)<|rdT σ 5 (pB 5)<|rdI σ 6 λn_=>rdI σ 7 λi=>rdB σ 1 y0 [.S] λa p=>rdB σ 2 y23 [.O] λa1 t2=>rdB σ 5 y23 [.O] λa2 x=>rdB σ 16 y24 [.S] λa3 t16=>j6H n_ Z12 i x t16 (λ(x1:Int×Int×List (qS×qL×qL))=>k (.exit 0) (mkS 74 74 [(1,pB 1),(2,pB 2),(5,pB 5)] [(1,⟨y0,a,p,[.S]⟩),(2,⟨y23,a1,t2,[.O]⟩),(5,⟨y23,a2,x1,[.O]⟩)]))
theorem jbD {W0:Base} {M:Nat->Prop} (hnp:W0.np<=0):Z22 Tryz.prog W0 M (cAt 250 (bo Tryz.f11)) j69:=j0b follows j00 j9q hnp [] oN [1,2,4,5,6,7] [1,2,5,16] ([],[]) [(0,[1,2,5],[1,2,5])] ([],[]) λσ k _ h=>rN h λhn h=>rT h λh1 h=>rT h λh2 h=>rT h λh4 h=>rT h λh5 h=>rV h λn_ h6 h=>rV h λi h7 h=>rB h λa p hb1 h=>rB h λa1 t2 hb2 h=>rB h λa2 x hb5 h=>rB h λa3 t16 hb16 h=>⟨_,Z9m (m:=74) hn (sC h1 (sC h2 (sC h4 (sC h5 (sC h6 (sC h7 sN)))))) (bC hb1 (bC hb2 (bC hb5 (bC hb16 bN)))),.trans (Z88 (λv:Int×(Int×Int×List (qS×qL×qL))×(List Int×Int)=>(mkS 74 74 [(1,pB 1),(2,pB 2),(4,pB 16),(5,pB 5),(6,vI n_),(7,vI v.1)] [(1,⟨y0,a,p,[.S]⟩),(2,⟨y23,a1,t2,[.O]⟩),(5,⟨y23,a2,v.2.1,[.O]⟩),(16,⟨y24,a3,v.2.2,[.S]⟩)])) (j3K n_) (λ(k:Z6O Unit)=>(((λ(x1:Int×Int×List (qS×qL×qL))=>k (.exit 0) (mkS 74 74 [(1,pB 1),(2,pB 2),(5,pB 5)] [(1,⟨y0,a,p,[.S]⟩),(2,⟨y23,a1,t2,[.O]⟩),(5,⟨y23,a2,x1,[.O]⟩)]))):((Int×Int×List (qS×qL×qL))->Res))) (λv rec k=>by delta j3K j1g j0f j0l j7l j85;refine gz j01 λ_ e=> ?_;rewrite [<-e];refine gz j02 λ_ e=> ?_;rewrite [<-e];refine gz j13 λ_ e=> ?_;rewrite [<-e];refine gz j26 λ_ e=> ?_;rewrite [<-e];kernel_rfl) Z12 (i,x,t16) k) h⟩
noncomputable def j2l (p:List Int) (k0:(Int×Int×List (qS×qL×qL))->Bool->Res):Res:=
 j01 2 (p,1) λ(r:Int) (bt16:List Int×Int)=>
  j01 2 bt16 λ(r1:Int) (bt161:List Int×Int)=>
   j01 1 bt161 λ(r2:Int) (bt162:List Int×Int)=>
    j6H r2 Z12 0 (r,r1,[]) bt162 λ(x:Int×Int×List (qS×qL×qL))=>
     j3X x λ(r3:List Int) (r4:Bool)=>
      bif !r4 then
       k0 (0,0,[]) false
      else
       bif sNe (Z34 r3) (Z34 p) then
        k0 (0,0,[]) false
       else
        k0 x true
noncomputable def j7k:Sig Unit:=⟨[.borrow y0 true],[true,false],λvals ext k=>av vals y0 λp vals=>nl vals<|nl ext<|j2l p (λ(r0:Int×Int×List (qS×qL×qL)) (r1:Bool)=>k [⟨y23,true,r0,[.O]⟩,wB r1] [] [])⟩
theorem jcz:Z1p Tryz.prog 11 j7k:=j04 (np:=0) follows j00 j9q [j69] (oI 250 0 (jbD) oN) false Tryz.func11 λ_ _ k _ h=>aV h λ_ _ _ _ _ h=>nL h λ_ h=>nL h λ_ h=>by subst_vars;exact .trans (by delta j2l j0f j69 j8x;refine gz j01 λ_ e=> ?_;rewrite [<-e];refine gz j6H λ_ e=> ?_;rewrite [<-e];refine gz j3X λ_ e=> ?_;rewrite [<-e];kernel_rfl) h
noncomputable def j7N (s:qB) (k0:Bool->Res):Res:=
 j0n s λ(r:Bool)=>
  k0 (!r)
noncomputable def jcg:Sig Unit:=⟨[.look .str false],[false],λvals ext k=>av vals .str λs vals=>nl vals<|nl ext<|j7N s (λ(r0:Bool)=>k [wB r0] [] [])⟩
theorem j8Z:Z1p Tryz.prog 243 jcg:=j04 (np:=0) follows j00 (Z8K j4H Z94) [] oN false Tryz.func243 λ_ _ k _ h=>aV h λ_ _ _ _ _ h=>nL h λ_ h=>nL h λ_ h=>by subst_vars;exact .trans (by kernel_rfl) h
noncomputable def j0w (s:qL) (t7:Int) (t8:Int) (rec:Int->Res) (k0:Unit->Res) (k1:Int->Res):Res:=
 bif decide (t8<t7) then
  bif inb t8 (List.length s) then
   j7N (nth eS s t8) λ(r:Bool)=>
    bif r then
     k1 t8
    else
     rec (Z8o (t8+1))
  else none
 else
  k0 ()
noncomputable def j1R (s:qL) (t7:Int):Int->(Int->Res)->((Unit->Res)×(Int->Res))->Res:=λv rec q=>j0w s t7 v (λt8=>rec (t8)) q.1 q.2
noncomputable def j2k (s:qL) (t7:Int) (n:Nat) (t8:Int) (k0:Unit->Res) (k1:Int->Res):Res:=Z14 (j1R s t7) n (t8) (k0,k1)
noncomputable def j4r:Z1q Unit:=λσ k=>rdN σ 19<|rd1 σ 0 y9 .S λs=>rdC σ 1 243 [] .unit [] λf=>rdI σ 7 λt7=>rdI σ 8 λt8=>j2k s t7 Z12 t8 (λ(_:Unit)=>k (.exit 0) (mkS 19 19 [] [])) (λ(t4:Int)=>k .ret (mkS 19 19 [(4,vI t4)] []))
theorem j8i {W0:Base} {M:Nat->Prop} (hnp:W0.np<=0):Z22 Tryz.prog W0 M (cAt 26 (bo Tryz.f300)) j4r:=j0b follows j00 (Z8K j8Z Z94) hnp [] oN [0,1,7,8] [] ([],[]) [(0,[],[])] ([4],[]) λσ k _ h=>rN h λhn h=>rV h λs h0 h=>rC h λf h1 h=>rV h λt7 h7 h=>rV h λt8 h8 h=>⟨_,Z9m (m:=19) hn (sC h0 (sC h1 (sC h7 (sC h8 sN)))) bN,.trans (Z88 (λv:Int=>(mkS 19 19 [(0,v1 y9 s .S),(1,.sclos 243 [] ⟨.unit,false,f,[]⟩),(7,vI t7),(8,vI v)] [])) (j1R s t7) (λ(k:Z6O Unit)=>(((λ(_:Unit)=>k (.exit 0) (mkS 19 19 [] [])),(λ(t4:Int)=>k .ret (mkS 19 19 [(4,vI t4)] []))):(Unit->Res)×(Int->Res))) (λv rec k=>by kernel_rfl) Z12 (t8) k) h⟩
noncomputable def j3m (s:qL) (f:Unit) (k0:Int->Res):Res:=
 j2k s (nI (List.length s)) Z12 0
  (λ(_:Unit)=>
   k0 (-1))
  (λ(t:Int)=>
   k0 t)
noncomputable def j8S:Sig Unit:=⟨[.look y9 false,.rclos 243 []],[false],λvals ext k=>av vals y9 λs vals=>av vals .unit λf vals=>nl vals<|nl ext<|j3m s f (λ(r0:Int)=>k [wI r0] [] [])⟩
theorem j8P:Z1p Tryz.prog 300 j8S:=j04 (np:=0) follows j00 (Z8K j8Z Z94) [j4r] (oI 26 0 (j8i) oN) false Tryz.func300 λ_ _ k _ h=>aV h λ_ _ _ _ _ h=>aV h λ_ _ _ _ _ h=>nL h λ_ h=>nL h λ_ h=>by subst_vars;exact .trans (by kernel_rfl) h
noncomputable def j2j (s:qL) (f:Unit) (k0:Bool->Res):Res:=
 j3m s f λ(r:Int)=>
  k0 (decide (r>=0))
noncomputable def j7Z:Sig Unit:=⟨[.look y9 false,.rclos 243 []],[false],λvals ext k=>av vals y9 λs vals=>av vals .unit λf vals=>nl vals<|nl ext<|j2j s f (λ(r0:Bool)=>k [wB r0] [] [])⟩
theorem j7K:Z1p Tryz.prog 242 j7Z:=j04 (np:=0) follows j00 (Z8K j8P Z94) [] oN false Tryz.func242 λ_ _ k _ h=>aV h λ_ _ _ _ _ h=>aV h λ_ _ _ _ _ h=>nL h λ_ h=>nL h λ_ h=>by subst_vars;exact .trans (by kernel_rfl) h
noncomputable def j3n (l:qL) (k0:Bool->Res):Res:=
 bif decide ((nI (List.length l))<=8) then
  j2j l () λ(r:Bool)=>
   k0 (!r)
 else
  k0 false
noncomputable def j7e:Sig Unit:=⟨[.look y9 false],[false],λvals ext k=>av vals y9 λl vals=>nl vals<|nl ext<|j3n l (λ(r0:Bool)=>k [wB r0] [] [])⟩
theorem jcs:Z1p Tryz.prog 186 j7e:=j04 (np:=0) follows j00 (Z8K j7K Z94) [] oN false Tryz.func186 λ_ _ k _ h=>aV h λ_ _ _ _ _ h=>nL h λ_ h=>nL h λ_ h=>by subst_vars;exact .trans (by kernel_rfl) h
theorem j9W:Fns Tryz.prog [(94,j4Q),(186,j7e),(187,j0N)]:=(Z8K jav (Z8K jcs (Z8K j10 Z94)))
noncomputable def j1w (t6:List (qS×qL×qL)) (t7:Int) (t8:Int) (rec:Int->Res) (k0:Unit->Res) (k1:Unit->Res):Res:=
 bif decide (t8<t7) then
  bif inb t8 (List.length t6) then
   j2L (nth ((0,eS,[],[],0,eS,[],[],eS,eS),[],[]) t6 t8).1 λ(r:Bool)=>
    bif !r then
     k1 ()
    else
     j3n (nth ((0,eS,[],[],0,eS,[],[],eS,eS),[],[]) t6 t8).2.1 λ(r1:Bool)=>
      bif !r1 then
       k1 ()
      else
       j3n (nth ((0,eS,[],[],0,eS,[],[],eS,eS),[],[]) t6 t8).2.2 λ(r2:Bool)=>
        bif !r2 then
         k1 ()
        else
         rec (Z8o (t8+1))
  else none
 else
  k0 ()
noncomputable def j3Z (t6:List (qS×qL×qL)) (t7:Int):Int->(Int->Res)->((Unit->Res)×(Unit->Res))->Res:=λv rec q=>j1w t6 t7 v (λt8=>rec (t8)) q.1 q.2
noncomputable def j55 (t6:List (qS×qL×qL)) (t7:Int) (n:Nat) (t8:Int) (k0:Unit->Res) (k1:Unit->Res):Res:=Z14 (j3Z t6 t7) n (t8) (k0,k1)
noncomputable def j6Q:Z1q Unit:=λσ k=>rdN σ 46<|rdT σ 1 (pB 1)<|rd1 σ 6 y21 .S λt6=>rdI σ 7 λt7=>rdI σ 8 λt8=>rdB σ 1 y23 [.S] λa b=>j55 t6 t7 Z12 t8 (λ(_:Unit)=>k (.exit 0) (mkS 46 46 [(1,pB 1)] [(1,⟨y23,a,b,[.S]⟩)])) (λ(_:Unit)=>k .ret (mkS 46 46 [(2,vB false)] []))
theorem jc1 {W0:Base} {M:Nat->Prop} (hnp:W0.np<=0):Z22 Tryz.prog W0 M (cAt 26 (bo Tryz.f84)) j6Q:=j0b follows j00 j9W hnp [] oN [1,6,7,8] [1] ([],[]) [(0,[1],[1])] ([2],[]) λσ k _ h=>rN h λhn h=>rT h λh1 h=>rV h λt6 h6 h=>rV h λt7 h7 h=>rV h λt8 h8 h=>rB h λa b hb1 h=>⟨_,Z9m (m:=46) hn (sC h1 (sC h6 (sC h7 (sC h8 sN)))) (bC hb1 bN),.trans (Z88 (λv:Int=>(mkS 46 46 [(1,pB 1),(6,v1 y21 t6 .S),(7,vI t7),(8,vI v)] [(1,⟨y23,a,b,[.S]⟩)])) (j3Z t6 t7) (λ(k:Z6O Unit)=>(((λ(_:Unit)=>k (.exit 0) (mkS 46 46 [(1,pB 1)] [(1,⟨y23,a,b,[.S]⟩)])),(λ(_:Unit)=>k .ret (mkS 46 46 [(2,vB false)] []))):(Unit->Res)×(Unit->Res))) (λv rec k=>by delta j3Z j1w j4Q j7e;refine gz j2L λ_ e=> ?_;rewrite [<-e];refine gz j3n λ_ e=> ?_;rewrite [<-e];kernel_rfl) Z12 (t8) k) h⟩
noncomputable def j49 (b:Int×Int×List (qS×qL×qL)) (k0:Bool->Res):Res:=
 j55 b.2.2 (nI (List.length b.2.2)) Z12 0
  (λ(_:Unit)=>
   j0d b.1 1 400 λ(r:Bool)=>
    bif r then
     j0d b.2.1 0 (Z8o (b.1-1)) λ(r1:Bool)=>
      bif r1 then
       k0 (decide ((nI (List.length b.2.2))<=60))
      else
       k0 false
    else
     k0 false)
  (λ(_:Unit)=>
   k0 false)
noncomputable def j7X:Sig Unit:=⟨[.look y23 true],[false],λvals ext k=>av vals y23 λb vals=>nl vals<|nl ext<|j49 b (λ(r0:Bool)=>k [wB r0] [] [])⟩
theorem jde:Z1p Tryz.prog 84 j7X:=j04 (np:=0) follows j00 j9W [j6Q] (oI 26 0 (jc1) oN) false Tryz.func84 λ_ _ k _ h=>aV h λ_ _ _ _ _ h=>nL h λ_ h=>nL h λ_ h=>by subst_vars;exact .trans (by delta j49 j6Q j0N;refine gz j55 λ_ e=> ?_;rewrite [<-e];refine gz j0d λ_ e=> ?_;rewrite [<-e];kernel_rfl) h
theorem jap:Fns Tryz.prog [(28,j2Z),(84,j7X),(97,j12),(100,j5n),(130,jal)]:=(Z8K j8Y (Z8K jde (Z8K j5B (Z8K jaO (Z8K jfl Z94)))))
noncomputable def j1M (t26:List (qS×qL×qL)) (t27:Int) (out:List Int) (t28:Int) (rec:(List Int)->Int->Res) (k0:(List Int)->Res):Res:=
 bif decide (t28<t27) then
  bif inb t28 (List.length t26) then
   j0p (nth ((0,eS,[],[],0,eS,[],[],eS,eS),[],[]) t26 t28).1 λ(r:List Int) (r1:Bool)=>
    j0g out (nI (List.length r)) 2 λ(r2:List Int)=>
     bif lim ((List.length r2)+(List.length r)) then
      j1o (r2++r) (nth ((0,eS,[],[],0,eS,[],[],eS,eS),[],[]) t26 t28).2.1 λ(r3:List Int)=>
       j1o r3 (nth ((0,eS,[],[],0,eS,[],[],eS,eS),[],[]) t26 t28).2.2 λ(r4:List Int)=>
        rec r4 (Z8o (t28+1))
     else none
  else none
 else
  k0 out
noncomputable def j4t (t26:List (qS×qL×qL)) (t27:Int):((List Int)×Int)->((List Int)×Int->Res)->(((List Int)->Res))->Res:=λv rec q=>j1M t26 t27 v.1 v.2 (λout t28=>rec (out,t28)) q
noncomputable def j5G (t26:List (qS×qL×qL)) (t27:Int) (n:Nat) (out:List Int) (t28:Int) (k0:(List Int)->Res):Res:=Z14 (j4t t26 t27) n (out,t28) (k0)
noncomputable def j7v:Z1q Unit:=λσ k=>rdN σ 57<|rdT σ 2 (pB 2)<|rd1 σ 4 y0 .O λout=>rd1 σ 26 y21 .S λt26=>rdI σ 27 λt27=>rdI σ 28 λt28=>rdB σ 2 y0 [.O] λa t2=>j5G t26 t27 Z12 out t28 (λ(out1:List Int)=>k (.exit 0) (mkS 57 57 [(2,pB 2),(4,v1 y0 out1 .O)] [(2,⟨y0,a,t2,[.O]⟩)]))
theorem jcP {W0:Base} {M:Nat->Prop} (hnp:W0.np<=0):Z22 Tryz.prog W0 M (cAt 250 (bo Tryz.f42)) j7v:=j0b follows j00 jap hnp [] oN [2,4,26,27,28] [2] ([],[]) [(0,[2,4],[2])] ([],[]) λσ k _ h=>rN h λhn h=>rT h λh2 h=>rV h λout h4 h=>rV h λt26 h26 h=>rV h λt27 h27 h=>rV h λt28 h28 h=>rB h λa t2 hb2 h=>⟨_,Z9m (m:=57) hn (sC h2 (sC h4 (sC h26 (sC h27 (sC h28 sN))))) (bC hb2 bN),.trans (Z88 (λv:(List Int)×Int=>(mkS 57 57 [(2,pB 2),(4,v1 y0 v.1 .O),(26,v1 y21 t26 .S),(27,vI t27),(28,vI v.2)] [(2,⟨y0,a,t2,[.O]⟩)])) (j4t t26 t27) (λ(k:Z6O Unit)=>(((λ(out1:List Int)=>k (.exit 0) (mkS 57 57 [(2,pB 2),(4,v1 y0 out1 .O)] [(2,⟨y0,a,t2,[.O]⟩)]))):((List Int)->Res))) (λv rec k=>by delta j4t j1M j2Z j12 j5n;refine gz j0p λ_ e=> ?_;rewrite [<-e];refine gz j0g λ_ e=> ?_;rewrite [<-e];refine gz j1o λ_ e=> ?_;rewrite [<-e];kernel_rfl) Z12 (out,t28) k) h⟩
noncomputable def j1j (b:Int×Int×List (qS×qL×qL)) (k0:(List Int)->Bool->Res):Res:=
 j49 b λ(r:Bool)=>
  bif !r then
   k0 [] false
  else
   j0g [80] b.1 2 λ(r1:List Int)=>
    j0g r1 b.2.1 2 λ(r2:List Int)=>
     j0g r2 (nI (List.length b.2.2)) 1 λ(r3:List Int)=>
      j5G b.2.2 (nI (List.length b.2.2)) Z12 r3 0 λ(out:List Int)=>
       j6u out λ(r4:Int)=>
        j0g out r4 3 λ(r5:List Int)=>
         k0 r5 true
noncomputable def j8u:Sig Unit:=⟨[.borrow y23 true],[true,false],λvals ext k=>av vals y23 λb vals=>nl vals<|nl ext<|j1j b (λ(r0:List Int) (r1:Bool)=>k [⟨y0,true,r0,[.O]⟩,wB r1] [] [])⟩
theorem je5:Z1p Tryz.prog 42 j8u:=j04 (np:=0) follows j00 jap [j7v] (oI 250 0 (jcP) oN) false Tryz.func42 λ_ _ k _ h=>aV h λ_ _ _ _ _ h=>nL h λ_ h=>nL h λ_ h=>by subst_vars;exact .trans (by delta j1j j7X j12 j7v jal;refine gz j49 λ_ e=> ?_;rewrite [<-e];refine gz j0g λ_ e=> ?_;rewrite [<-e];refine gz j5G λ_ e=> ?_;rewrite [<-e];refine gz j6u λ_ e=> ?_;rewrite [<-e];kernel_rfl) h
theorem j6Y:Fns Tryz.prog [(31,j7d),(42,j8u),(67,j0m),(68,j0A),(69,j4y),(70,j2z)]:=(Z8K jcr (Z8K je5 (Z8K j3u (Z8K j4s (Z8K j90 (Z8K j8D Z94))))))
noncomputable def j18 (t27:Int) (t28:Int) (b:Int×Int×List (qS×qL×qL)) (t16:List Int×Int×Bool) (rec:Int->(Int×Int×List (qS×qL×qL))->(List Int×Int×Bool)->Res) (k0:(Int×Int×List (qS×qL×qL))->(List Int×Int×Bool)->Res) (k1:Unit->Res):Res:=
 bif decide (t28<t27) then
  j06 2 t16 λ(r:Int) (bt16:List Int×Int×Bool)=>
   j0i r bt16 λ(r1:List Int) (bt161:List Int×Int×Bool)=>
    j11 r1 λ(r2:qS) (r3:Bool)=>
     bif !r3 then
      k1 ()
     else
      j0r bt161 λ(r4:qL) (bt162:List Int×Int×Bool)=>
       j0r bt162 λ(r5:qL) (bt163:List Int×Int×Bool)=>
        bif lim ((List.length b.2.2)+1) then
         rec (Z8o (t28+1)) (b.1,b.2.1,(b.2.2++[(r2,r4,r5)])) bt163
        else none
 else
  k0 b t16
noncomputable def j3x (t27:Int):(Int×(Int×Int×List (qS×qL×qL))×(List Int×Int×Bool))->(Int×(Int×Int×List (qS×qL×qL))×(List Int×Int×Bool)->Res)->(((Int×Int×List (qS×qL×qL))->(List Int×Int×Bool)->Res)×(Unit->Res))->Res:=λv rec q=>j18 t27 v.1 v.2.1 v.2.2 (λt28 b t16=>rec (t28,b,t16)) q.1 q.2
noncomputable def j6t (t27:Int) (n:Nat) (t28:Int) (b:Int×Int×List (qS×qL×qL)) (t16:List Int×Int×Bool) (k0:(Int×Int×List (qS×qL×qL))->(List Int×Int×Bool)->Res) (k1:Unit->Res):Res:=Z14 (j3x t27) n (t28,b,t16) (k0,k1)
noncomputable def j44:Z1q Unit:=λσ k=>rdN σ 81<|rdT σ 1 (pB 1)<|rdT σ 2 (pB 2)<|rdT σ 4 (pB 16)<|rdT σ 5 (pB 5)<|rdI σ 27 λt27=>rdI σ 28 λt28=>rdB σ 1 y0 [.S] λa p=>rdB σ 2 y23 [.O] λa1 t2=>rdB σ 5 y23 [.O] λa2 b=>rdB σ 16 y26 [.S] λa3 t16=>j6t t27 Z12 t28 b t16 (λ(b1:Int×Int×List (qS×qL×qL)) (t161:List Int×Int×Bool)=>k (.exit 0) (mkS 81 81 [(1,pB 1),(2,pB 2),(4,pB 16),(5,pB 5)] [(1,⟨y0,a,p,[.S]⟩),(2,⟨y23,a1,t2,[.O]⟩),(5,⟨y23,a2,b1,[.O]⟩),(16,⟨y26,a3,t161,[.S]⟩)])) (λ(_:Unit)=>k .ret (mkS 81 81 [(2,pB 2),(3,vB false)] [(2,⟨y23,a1,(0,0,[]),[.O]⟩)]))
theorem jbo {W0:Base} {M:Nat->Prop} (hnp:W0.np<=0):Z22 Tryz.prog W0 M (cAt 1018 (bo Tryz.f13)) j44:=j0b follows j00 j6Y hnp [] oN [1,2,4,5,27,28] [1,2,5,16] ([],[]) [(0,[1,2,4,5],[1,2,5,16])] ([2,3],[2]) λσ k _ h=>rN h λhn h=>rT h λh1 h=>rT h λh2 h=>rT h λh4 h=>rT h λh5 h=>rV h λt27 h27 h=>rV h λt28 h28 h=>rB h λa p hb1 h=>rB h λa1 t2 hb2 h=>rB h λa2 b hb5 h=>rB h λa3 t16 hb16 h=>⟨_,Z9m (m:=81) hn (sC h1 (sC h2 (sC h4 (sC h5 (sC h27 (sC h28 sN)))))) (bC hb1 (bC hb2 (bC hb5 (bC hb16 bN)))),.trans (Z88 (λv:Int×(Int×Int×List (qS×qL×qL))×(List Int×Int×Bool)=>(mkS 81 81 [(1,pB 1),(2,pB 2),(4,pB 16),(5,pB 5),(27,vI t27),(28,vI v.1)] [(1,⟨y0,a,p,[.S]⟩),(2,⟨y23,a1,t2,[.O]⟩),(5,⟨y23,a2,v.2.1,[.O]⟩),(16,⟨y26,a3,v.2.2,[.S]⟩)])) (j3x t27) (λ(k:Z6O Unit)=>(((λ(b1:Int×Int×List (qS×qL×qL)) (t161:List Int×Int×Bool)=>k (.exit 0) (mkS 81 81 [(1,pB 1),(2,pB 2),(4,pB 16),(5,pB 5)] [(1,⟨y0,a,p,[.S]⟩),(2,⟨y23,a1,t2,[.O]⟩),(5,⟨y23,a2,b1,[.O]⟩),(16,⟨y26,a3,t161,[.S]⟩)])),(λ(_:Unit)=>k .ret (mkS 81 81 [(2,pB 2),(3,vB false)] [(2,⟨y23,a1,(0,0,[]),[.O]⟩)]))):((Int×Int×List (qS×qL×qL))->(List Int×Int×Bool)->Res)×(Unit->Res))) (λv rec k=>by delta j3x j18 j0m j4y j7d j2z;refine gz j06 λ_ e=> ?_;rewrite [<-e];refine gz j0i λ_ e=> ?_;rewrite [<-e];refine gz j11 λ_ e=> ?_;rewrite [<-e];refine gz j0r λ_ e=> ?_;rewrite [<-e];kernel_rfl) Z12 (t28,b,t16) k) h⟩
noncomputable def j1N (ok:Bool) (p:List Int) (back:List Int) (t16:List Int×Int×Bool) (k0:Bool->Res):Res:=
 bif t16.2.2 then
  k0 true
 else
  bif !ok then
   k0 true
  else
   k0 (sNe (Z34 back) (Z34 p))
noncomputable def j66:Z1q Unit:=λσ k=>rdN σ 81<|rdT σ 1 (pB 1)<|rdT σ 2 (pB 2)<|rdT σ 4 (pB 16)<|rdT σ 5 (pB 5)<|rdT σ 11 (pB 11)<|rdO σ 12 λok=>rdB σ 1 y0 [.S] λa p=>rdB σ 2 y23 [.O] λa1 t2=>rdB σ 5 y23 [.O] λa2 b=>rdB σ 11 y0 [.O] λa3 back=>rdB σ 16 y26 [.S] λa4 t16=>j1N ok p back t16 (λ(t78:Bool)=>k .normal (mkS 81 81 [(2,pB 2),(5,pB 5),(78,vB t78)] [(2,⟨y23,a1,t2,[.O]⟩),(5,⟨y23,a2,b,[.O]⟩)]))
theorem jbp {W0:Base} {M:Nat->Prop} (hnp:W0.np<=0):Z22 Tryz.prog W0 M (cAt 2044 (bo Tryz.f13)) j66:=j0P follows j00 j6Y hnp [j44] oN ([2,5,78],[2,5]) [] ([],[]) λσ k _ h=>rN h λhn h=>rT h λh1 h=>rT h λh2 h=>rT h λh4 h=>rT h λh5 h=>rT h λh11 h=>rV h λok h12 h=>rB h λa p hb1 h=>rB h λa1 t2 hb2 h=>rB h λa2 b hb5 h=>rB h λa3 back hb11 h=>rB h λa4 t16 hb16 h=>⟨_,Z9m (m:=81) hn (sC h1 (sC h2 (sC h4 (sC h5 (sC h11 (sC h12 sN)))))) (bC hb1 (bC hb2 (bC hb5 (bC hb11 (bC hb16 bN))))),.trans (by kernel_rfl) h⟩
noncomputable def j0C (p:List Int) (k0:(Int×Int×List (qS×qL×qL))->Bool->Res):Res:=
 j06 1 (p,0,false) λ(r:Int) (bt16:List Int×Int×Bool)=>
  j06 2 bt16 λ(r1:Int) (bt161:List Int×Int×Bool)=>
   j06 2 bt161 λ(r2:Int) (bt162:List Int×Int×Bool)=>
    j07 60 bt162 λ(r3:Int) (bt163:List Int×Int×Bool)=>
     j6t r3 Z12 0 (r1,r2,[]) bt163
      (λ(b:Int×Int×List (qS×qL×qL)) (t:List Int×Int×Bool)=>
       j1j b λ(r4:List Int) (r5:Bool)=>
        j1N r5 p r4 t λ(t1:Bool)=>
         bif t1 then
          k0 (0,0,[]) false
         else
          k0 b true)
      (λ(_:Unit)=>
       k0 (0,0,[]) false)
noncomputable def j58:Sig Unit:=⟨[.borrow y0 true],[true,false],λvals ext k=>av vals y0 λp vals=>nl vals<|nl ext<|j0C p (λ(r0:Int×Int×List (qS×qL×qL)) (r1:Bool)=>k [⟨y23,true,r0,[.O]⟩,wB r1] [] [])⟩
theorem jcq:Z1p Tryz.prog 13 j58:=j04 (np:=0) follows j00 j6Y [j44,j66] (oI 1018 0 (jbo) (oI 2044 1 (jbp) oN)) false Tryz.func13 λ_ _ k _ h=>aV h λ_ _ _ _ _ h=>nL h λ_ h=>nL h λ_ h=>by subst_vars;exact .trans (by delta j0C j0m j0A j44 j8u j66;refine gz j06 λ_ e=> ?_;rewrite [<-e];refine gz j07 λ_ e=> ?_;rewrite [<-e];refine gz j6t λ_ e=> ?_;rewrite [<-e];refine gz j1j λ_ e=> ?_;rewrite [<-e];refine gz j1N λ_ e=> ?_;rewrite [<-e];kernel_rfl) h
end Go.PI.G
namespace Go.PI.G
open Go Go.PI Go.Proofs
open Go.Code (pl pr)
noncomputable def j78 (a:Int×Int×qB) (b:Int×Int×qB) (k0:Bool->Res):Res:=
 bif (a.1 != b.1) then
  k0 false
 else
  bif (a.2.1 != b.2.1) then
   k0 false
  else
   bif sNe a.2.2 b.2.2 then
    k0 false
   else
    k0 true
noncomputable def jeV:Sig Unit:=⟨[.look y2 true,.look y2 true],[false],λvals ext k=>av vals y2 λa vals=>av vals y2 λb vals=>nl vals<|nl ext<|j78 a b (λ(r0:Bool)=>k [wB r0] [] [])⟩
theorem j92:Z1p Tryz.prog 343 jeV:=j04 (np:=0) follows j00 Z94 [] oN false Tryz.func343 λ_ _ k _ h=>aV h λ_ _ _ _ _ h=>aV h λ_ _ _ _ _ h=>nL h λ_ h=>nL h λ_ h=>by subst_vars;exact .trans (by kernel_rfl) h
end Go.PI.G
namespace Go.PI.G
open Go Go.PI Go.Proofs
open Go.Code (pl pr)
noncomputable def j8Q (a:qB×Int×Bool×Bool×Int×Int×qB) (b:qB×Int×Bool×Bool×Int×Int×qB) (k0:Bool->Res):Res:=
 bif sNe a.1 b.1 then
  k0 false
 else
  bif (a.2.1 != b.2.1) then
   k0 false
  else
   bif !(a.2.2.1==b.2.2.1) then
    k0 false
   else
    bif !(a.2.2.2.1==b.2.2.2.1) then
     k0 false
    else
     j78 a.2.2.2.2 b.2.2.2.2 λ(r:Bool)=>
      bif !r then
       k0 false
      else
       k0 true
noncomputable def jeU:Sig Unit:=⟨[.look y7 true,.look y7 true],[false],λvals ext k=>av vals y7 λa vals=>av vals y7 λb vals=>nl vals<|nl ext<|j8Q a b (λ(r0:Bool)=>k [wB r0] [] [])⟩
theorem jaP:Z1p Tryz.prog 366 jeU:=j04 (np:=0) follows j00 (Z8K j92 Z94) [] oN false Tryz.func366 λ_ _ k _ h=>aV h λ_ _ _ _ _ h=>aV h λ_ _ _ _ _ h=>nL h λ_ h=>nL h λ_ h=>by subst_vars;exact .trans (by kernel_rfl) h
end Go.PI.G
namespace Go.PI.G
open Go Go.PI Go.Proofs
open Go.Code (pl pr)
noncomputable def j22 (k_:Int) (out:qB) (rec:Int->qB->Res) (k0:qB->Res):Res:=
 bif decide (k_>0) then
  bif lim ((ByteArray.size (Z34 [wu8 (Z8o (48+(Int.tmod k_ 10)))]))+(ByteArray.size out)) then
   rec (Z8o (Int.tdiv k_ 10)) ((Z34 [wu8 (Z8o (48+(Int.tmod k_ 10)))])++out)
  else none
 else
  k0 out
noncomputable def j3E:(Int×qB)->(Int×qB->Res)->((qB->Res))->Res:=λv rec q=>j22 v.1 v.2 (λk_ out=>rec (k_,out)) q
noncomputable def j6A (n:Nat) (k_:Int) (out:qB) (k0:qB->Res):Res:=Z14 (j3E) n (k_,out) (k0)
noncomputable def j8K:Z1q Unit:=λσ k=>rdN σ 20<|rdI σ 0 λk_=>rdS σ 3 λout=>j6A Z12 k_ out (λ(out1:qB)=>k (.exit 0) (mkS 20 20 [(3,vS out1)] []))
theorem jbB {W0:Base} {M:Nat->Prop} (hnp:W0.np<=0):Z22 Tryz.prog W0 M (cAt 60 (bo Tryz.f175)) j8K:=j0b follows j00 Z94 hnp [] oN [0,3] [] ([],[]) [(0,[3],[])] ([],[]) λσ k _ h=>rN h λhn h=>rV h λk_ h0 h=>rV h λout h3 h=>⟨_,Z9m (m:=20) hn (sC h0 (sC h3 sN)) bN,.trans (Z88 (λv:Int×qB=>(mkS 20 20 [(0,vI v.1),(3,vS v.2)] [])) (j3E) (λ(k:Z6O Unit)=>(((λ(out1:qB)=>k (.exit 0) (mkS 20 20 [(3,vS out1)] []))):(qB->Res))) (λv rec k=>by kernel_rfl) Z12 (k_,out) k) h⟩
noncomputable def j09 (k_:Int) (k0:qB->Res):Res:=
 bif decide (k_<=0) then
  k0 jhp
 else
  j6A Z12 k_ eS λ(out:qB)=>
   bif lim (1+(ByteArray.size out)) then
    k0 (z_m++out)
   else none
noncomputable def j2d:Sig Unit:=⟨[.look tI false],[false],λvals ext k=>av vals tI λk_ vals=>nl vals<|nl ext<|j09 k_ (λ(r0:qB)=>k [wS r0] [] [])⟩
theorem j0e:Z1p Tryz.prog 175 j2d:=j04 (np:=0) follows j00 Z94 [j8K] (oI 60 0 (jbB) oN) false Tryz.func175 λ_ _ k _ h=>aV h λ_ _ _ _ _ h=>nL h λ_ h=>nL h λ_ h=>by subst_vars;exact .trans (by kernel_rfl) h
end Go.PI.G
namespace Go.PI.G
open Go Go.PI Go.Proofs
open Go.Code (pl pr)
noncomputable def j2U (a:List qC) (b:List qC) (i:Int) (rec:Int->Res) (k0:Unit->Res) (k1:Unit->Res):Res:=
 bif decide (i<(nI (List.length a))) then
  bif inb i (List.length a) then
   bif inb i (List.length b) then
    j8Q (nth (eS,0,false,false,0,0,eS) a i) (nth (eS,0,false,false,0,0,eS) b i) λ(r:Bool)=>
     bif !r then
      k1 ()
     else
      rec (Z8o (i+1))
   else none
  else none
 else
  k0 ()
noncomputable def j97 (a:List qC) (b:List qC):Int->(Int->Res)->((Unit->Res)×(Unit->Res))->Res:=λv rec q=>j2U a b v (λi=>rec (i)) q.1 q.2
noncomputable def j7R (a:List qC) (b:List qC) (n:Nat) (i:Int) (k0:Unit->Res) (k1:Unit->Res):Res:=Z14 (j97 a b) n (i) (k0,k1)
noncomputable def j9C:Z1q Unit:=λσ k=>rdN σ 27<|rd1 σ 0 y8 .S λa=>rd1 σ 1 y8 .S λb=>rdI σ 5 λi=>j7R a b Z12 i (λ(_:Unit)=>k (.exit 0) (mkS 27 27 [] [])) (λ(_:Unit)=>k .ret (mkS 27 27 [(4,vB false)] []))
theorem jcT {W0:Base} {M:Nat->Prop} (hnp:W0.np<=0):Z22 Tryz.prog W0 M (cAt 58 (bo Tryz.f333)) j9C:=j0b follows j00 (Z8K jaP Z94) hnp [] oN [0,1,5] [] ([],[]) [(0,[],[])] ([4],[]) λσ k _ h=>rN h λhn h=>rV h λa h0 h=>rV h λb h1 h=>rV h λi h5 h=>⟨_,Z9m (m:=27) hn (sC h0 (sC h1 (sC h5 sN))) bN,.trans (Z88 (λv:Int=>(mkS 27 27 [(0,v1 y8 a .S),(1,v1 y8 b .S),(5,vI v)] [])) (j97 a b) (λ(k:Z6O Unit)=>(((λ(_:Unit)=>k (.exit 0) (mkS 27 27 [] [])),(λ(_:Unit)=>k .ret (mkS 27 27 [(4,vB false)] []))):(Unit->Res)×(Unit->Res))) (λv rec k=>by kernel_rfl) Z12 (i) k) h⟩
noncomputable def j6f (a:List qC) (b:List qC) (k0:Bool->Res):Res:=
 bif ((nI (List.length a)) != (nI (List.length b))) then
  k0 false
 else
  j7R a b Z12 0
   (λ(_:Unit)=>
    k0 true)
   (λ(_:Unit)=>
    k0 false)
noncomputable def jaC:Sig Unit:=⟨[.look y8 false,.look y8 false],[false],λvals ext k=>av vals y8 λa vals=>av vals y8 λb vals=>nl vals<|nl ext<|j6f a b (λ(r0:Bool)=>k [wB r0] [] [])⟩
theorem je6:Z1p Tryz.prog 333 jaC:=j04 (np:=0) follows j00 (Z8K jaP Z94) [j9C] (oI 58 0 (jcT) oN) false Tryz.func333 λ_ _ k _ h=>aV h λ_ _ _ _ _ h=>aV h λ_ _ _ _ _ h=>nL h λ_ h=>nL h λ_ h=>by subst_vars;exact .trans (by kernel_rfl) h
noncomputable def j2W (a:List qC) (k_:Int) (i:Int) (k0:qE->Res):Res:=
 bif inb i (List.length a) then
  k0 (upd a i ((nth (eS,0,false,false,0,0,eS) a i).1,(nth (eS,0,false,false,0,0,eS) a i).2.1,((Int.tmod k_ 3)==0),(nth (eS,0,false,false,0,0,eS) a i).2.2.2))
 else none
noncomputable def j1C:Z1q Unit:=λσ k=>rdN σ 71<|rd1 σ 0 y8 .O λa=>rdI σ 1 λk_=>rdI σ 5 λi=>j2W a k_ i (λ(a1:List qC)=>k .normal (mkS 71 71 [(0,v1 y8 a1 .O),(1,vI k_),(5,vI i)] []))
theorem jby {W0:Base} {M:Nat->Prop} (hnp:W0.np<=1):Z22 Tryz.prog W0 M (cAt 13470 (bo Tryz.f177)) j1C:=j0P follows j00 (Z8K j0e Z94) hnp [] oN ([0,1,5],[]) [] ([],[]) λσ k _ h=>rN h λhn h=>rV h λa h0 h=>rV h λk_ h1 h=>rV h λi h5 h=>⟨_,Z9m (m:=71) hn (sC h0 (sC h1 (sC h5 sN))) bN,.trans (by kernel_rfl) h⟩
noncomputable def j2X (a:List qC) (k_:Int) (i:Int) (k0:qE->Res):Res:=
 bif inb i (List.length a) then
  k0 (upd a i ((nth (eS,0,false,false,0,0,eS) a i).1,(nth (eS,0,false,false,0,0,eS) a i).2.1,(nth (eS,0,false,false,0,0,eS) a i).2.2.1,(nth (eS,0,false,false,0,0,eS) a i).2.2.2.1,k_,(nth (eS,0,false,false,0,0,eS) a i).2.2.2.2.2))
 else none
noncomputable def j2E:Z1q Unit:=λσ k=>rdN σ 71<|rd1 σ 0 y8 .O λa=>rdI σ 1 λk_=>rdI σ 5 λi=>j2X a k_ i (λ(a1:List qC)=>k .normal (mkS 71 71 [(0,v1 y8 a1 .O),(1,vI k_),(5,vI i)] []))
theorem jbz {W0:Base} {M:Nat->Prop} (hnp:W0.np<=1):Z22 Tryz.prog W0 M (cAt 215550 (bo Tryz.f177)) j2E:=j0P follows j00 (Z8K j0e Z94) hnp [j1C] oN ([0,1,5],[]) [] ([],[]) λσ k _ h=>rN h λhn h=>rV h λa h0 h=>rV h λk_ h1 h=>rV h λi h5 h=>⟨_,Z9m (m:=71) hn (sC h0 (sC h1 (sC h5 sN))) bN,.trans (by kernel_rfl) h⟩
noncomputable def j2Y (a:List qC) (k_:Int) (i:Int) (k0:qE->Res):Res:=
 j09 k_ λ(r:qB)=>
  bif inb i (List.length a) then
   k0 (upd a i ((nth (eS,0,false,false,0,0,eS) a i).1,(nth (eS,0,false,false,0,0,eS) a i).2.1,(nth (eS,0,false,false,0,0,eS) a i).2.2.1,(nth (eS,0,false,false,0,0,eS) a i).2.2.2.1,(nth (eS,0,false,false,0,0,eS) a i).2.2.2.2.1,(nth (eS,0,false,false,0,0,eS) a i).2.2.2.2.2.1,r))
  else none
noncomputable def j46:Z1q Unit:=λσ k=>rdN σ 71<|rd1 σ 0 y8 .O λa=>rdI σ 1 λk_=>rdI σ 5 λi=>j2Y a k_ i (λ(a1:List qC)=>k .normal (mkS 71 71 [(0,v1 y8 a1 .O),(1,vI k_),(5,vI i)] []))
theorem jbA {W0:Base} {M:Nat->Prop} (hnp:W0.np<=1):Z22 Tryz.prog W0 M (cAt 3448830 (bo Tryz.f177)) j46:=j0P follows j00 (Z8K j0e Z94) hnp [j1C,j2E] oN ([0,1,5],[]) [] ([],[]) λσ k _ h=>rN h λhn h=>rV h λa h0 h=>rV h λk_ h1 h=>rV h λi h5 h=>⟨_,Z9m (m:=71) hn (sC h0 (sC h1 (sC h5 sN))) bN,.trans (by kernel_rfl) h⟩
noncomputable def j1d (a:List qC) (k_:Int) (i:Int) (rec:qE->Int->Int->Res) (k0:qE->Int->Res):Res:=
 bif decide (i<(nI (List.length a))) then
  j09 k_ λ(r:qB)=>
   bif inb i (List.length a) then
    bif inb i (List.length (upd a i (r,(nth (eS,0,false,false,0,0,eS) a i).2))) then
     j2W (upd (upd a i (r,(nth (eS,0,false,false,0,0,eS) a i).2)) i ((nth (eS,0,false,false,0,0,eS) (upd a i (r,(nth (eS,0,false,false,0,0,eS) a i).2)) i).1,Z8o (k_+1),(nth (eS,0,false,false,0,0,eS) (upd a i (r,(nth (eS,0,false,false,0,0,eS) a i).2)) i).2.2)) (Z8o ((Z8o (k_+1))+1)) i λ(a1:List qC)=>
      bif inb i (List.length a1) then
       j2X (upd a1 i ((nth (eS,0,false,false,0,0,eS) a1 i).1,(nth (eS,0,false,false,0,0,eS) a1 i).2.1,(nth (eS,0,false,false,0,0,eS) a1 i).2.2.1,((Int.tmod (Z8o ((Z8o ((Z8o (k_+1))+1))+1)) 3)==0),(nth (eS,0,false,false,0,0,eS) a1 i).2.2.2.2)) (Z8o ((Z8o ((Z8o ((Z8o (k_+1))+1))+1))+1)) i λ(a2:List qC)=>
        bif inb i (List.length a2) then
         j2Y (upd a2 i ((nth (eS,0,false,false,0,0,eS) a2 i).1,(nth (eS,0,false,false,0,0,eS) a2 i).2.1,(nth (eS,0,false,false,0,0,eS) a2 i).2.2.1,(nth (eS,0,false,false,0,0,eS) a2 i).2.2.2.1,(nth (eS,0,false,false,0,0,eS) a2 i).2.2.2.2.1,Z8o ((Z8o ((Z8o ((Z8o ((Z8o (k_+1))+1))+1))+1))+1),(nth (eS,0,false,false,0,0,eS) a2 i).2.2.2.2.2.2)) (Z8o ((Z8o ((Z8o ((Z8o ((Z8o ((Z8o (k_+1))+1))+1))+1))+1))+1)) i λ(a3:List qC)=>
          rec a3 (Z8o ((Z8o ((Z8o ((Z8o ((Z8o ((Z8o ((Z8o (k_+1))+1))+1))+1))+1))+1))+1)) (Z8o (i+1))
        else none
      else none
    else none
   else none
 else
  k0 a k_
noncomputable def j3D:(qE×Int×Int)->(qE×Int×Int->Res)->((qE->Int->Res))->Res:=λv rec q=>j1d v.1 v.2.1 v.2.2 (λa k_ i=>rec (a,k_,i)) q
noncomputable def j6z (n:Nat) (a:List qC) (k_:Int) (i:Int) (k0:qE->Int->Res):Res:=Z14 (j3D) n (a,k_,i) (k0)
noncomputable def j8J:Z1q Unit:=λσ k=>rdN σ 71<|rd1 σ 0 y8 .O λa=>rdI σ 1 λk_=>rdI σ 5 λi=>j6z Z12 a k_ i (λ(a4:List qC) (k_1:Int)=>k (.exit 0) (mkS 71 71 [(0,v1 y8 a4 .O),(1,vI k_1)] []))
theorem jbx {W0:Base} {M:Nat->Prop} (hnp:W0.np<=1):Z22 Tryz.prog W0 M (cAt 26 (bo Tryz.f177)) j8J:=j0b follows j00 (Z8K j0e Z94) hnp [j1C,j2E,j46] (oI 414 0 (jby) (oI 6654 1 (jbz) (oI 106494 2 (jbA) oN))) [0,1,5] [] ([],[]) [(0,[0,1],[])] ([],[]) λσ k _ h=>rN h λhn h=>rV h λa h0 h=>rV h λk_ h1 h=>rV h λi h5 h=>⟨_,Z9m (m:=71) hn (sC h0 (sC h1 (sC h5 sN))) bN,.trans (Z88 (λv:qE×Int×Int=>(mkS 71 71 [(0,v1 y8 v.1 .O),(1,vI v.2.1),(5,vI v.2.2)] [])) (j3D) (λ(k:Z6O Unit)=>(((λ(a4:List qC) (k_1:Int)=>k (.exit 0) (mkS 71 71 [(0,v1 y8 a4 .O),(1,vI k_1)] []))):(qE->Int->Res))) (λv rec k=>by delta j3D j1d j2d j1C j2E j46;refine gz j09 λ_ e=> ?_;rewrite [<-e];refine gz j2W λ_ e=> ?_;rewrite [<-e];refine gz j2X λ_ e=> ?_;rewrite [<-e];refine gz j2Y λ_ e=> ?_;rewrite [<-e];kernel_rfl) Z12 (a,k_,i) k) h⟩
noncomputable def j4O (a:List qC) (k_:Int) (k0:Int->qE->Res):Res:=
 j6z Z12 a k_ 0 λ(a1:List qC) (k_1:Int)=>
  k0 k_1 a1
noncomputable def j7h:Sig Unit:=⟨[.inout y8 false,.borrow tI false],[false],λvals ext k=>ao vals y8 [.O] λa vals=>av vals tI λk_ vals=>nl vals<|nl ext<|j4O a k_ (λ(r0:Int) (i0:List qC)=>k [wI r0] [w1 y8 i0 .O] [])⟩
theorem jcw:Z1p Tryz.prog 177 j7h:=j04 (np:=1) follows j00 (Z8K j0e Z94) [j1C,j2E,j46,j8J] (oI 26 3 (jbx) oN) false Tryz.func177 λ_ _ k _ h=>aO h λ_ _ _ _ h=>aV h λ_ _ _ _ _ h=>nL h λ_ h=>nL h λ_ h=>by subst_vars;exact .trans (by kernel_rfl) h
noncomputable def j1b (a:List qC) (k_:Int) (i:Int) (rec:Int->Int->Res) (k0:Int->Res) (k1:Unit->Res):Res:=
 bif decide (i<(nI (List.length a))) then
  bif inb i (List.length a) then
   j09 k_ λ(r:qB)=>
    bif sNe (nth (eS,0,false,false,0,0,eS) a i).1 r then
     k1 ()
    else
     bif inb i (List.length a) then
      bif ((nth (eS,0,false,false,0,0,eS) a i).2.1 != (Z8o (k_+1))) then
       k1 ()
      else
       bif inb i (List.length a) then
        bif !((nth (eS,0,false,false,0,0,eS) a i).2.2.1==((Int.tmod (Z8o ((Z8o (k_+1))+1)) 3)==0)) then
         k1 ()
        else
         bif inb i (List.length a) then
          bif !((nth (eS,0,false,false,0,0,eS) a i).2.2.2.1==((Int.tmod (Z8o ((Z8o ((Z8o (k_+1))+1))+1)) 3)==0)) then
           k1 ()
          else
           bif inb i (List.length a) then
            bif ((nth (eS,0,false,false,0,0,eS) a i).2.2.2.2.1 != (Z8o ((Z8o ((Z8o ((Z8o (k_+1))+1))+1))+1))) then
             k1 ()
            else
             bif inb i (List.length a) then
              bif ((nth (eS,0,false,false,0,0,eS) a i).2.2.2.2.2.1 != (Z8o ((Z8o ((Z8o ((Z8o ((Z8o (k_+1))+1))+1))+1))+1))) then
               k1 ()
              else
               bif inb i (List.length a) then
                j09 (Z8o ((Z8o ((Z8o ((Z8o ((Z8o ((Z8o (k_+1))+1))+1))+1))+1))+1)) λ(r1:qB)=>
                 bif sNe (nth (eS,0,false,false,0,0,eS) a i).2.2.2.2.2.2 r1 then
                  k1 ()
                 else
                  rec (Z8o ((Z8o ((Z8o ((Z8o ((Z8o ((Z8o ((Z8o (k_+1))+1))+1))+1))+1))+1))+1)) (Z8o (i+1))
               else none
             else none
           else none
         else none
       else none
     else none
  else none
 else
  k0 k_
noncomputable def j3C (a:List qC):(Int×Int)->(Int×Int->Res)->((Int->Res)×(Unit->Res))->Res:=λv rec q=>j1b a v.1 v.2 (λk_ i=>rec (k_,i)) q.1 q.2
noncomputable def j6x (a:List qC) (n:Nat) (k_:Int) (i:Int) (k0:Int->Res) (k1:Unit->Res):Res:=Z14 (j3C a) n (k_,i) (k0,k1)
noncomputable def j8H:Z1q Unit:=λσ k=>rdN σ 85<|rd1 σ 0 y8 .S λa=>rdI σ 1 λk_=>rdI σ 5 λi=>j6x a Z12 k_ i (λ(k_1:Int)=>k (.exit 0) (mkS 85 85 [(1,vI k_1)] [])) (λ(_:Unit)=>k .ret (mkS 85 85 [(4,vI (-1))] []))
theorem jbv {W0:Base} {M:Nat->Prop} (hnp:W0.np<=0):Z22 Tryz.prog W0 M (cAt 26 (bo Tryz.f179)) j8H:=j0b follows j00 (Z8K j0e Z94) hnp [] oN [0,1,5] [] ([],[]) [(0,[1],[])] ([4],[]) λσ k _ h=>rN h λhn h=>rV h λa h0 h=>rV h λk_ h1 h=>rV h λi h5 h=>⟨_,Z9m (m:=85) hn (sC h0 (sC h1 (sC h5 sN))) bN,.trans (Z88 (λv:Int×Int=>(mkS 85 85 [(0,v1 y8 a .S),(1,vI v.1),(5,vI v.2)] [])) (j3C a) (λ(k:Z6O Unit)=>(((λ(k_1:Int)=>k (.exit 0) (mkS 85 85 [(1,vI k_1)] [])),(λ(_:Unit)=>k .ret (mkS 85 85 [(4,vI (-1))] []))):(Int->Res)×(Unit->Res))) (λv rec k=>by delta j3C j1b j2d;refine gz j09 λ_ e=> ?_;rewrite [<-e];kernel_rfl) Z12 (k_,i) k) h⟩
noncomputable def j4N (a:List qC) (k_:Int) (k0:Int->Res):Res:=
 j6x a Z12 k_ 0
  (λ(k_1:Int)=>
   k0 k_1)
  (λ(_:Unit)=>
   k0 (-1))
noncomputable def j7f:Sig Unit:=⟨[.look y8 false,.look tI false],[false],λvals ext k=>av vals y8 λa vals=>av vals tI λk_ vals=>nl vals<|nl ext<|j4N a k_ (λ(r0:Int)=>k [wI r0] [] [])⟩
theorem jcu:Z1p Tryz.prog 179 j7f:=j04 (np:=0) follows j00 (Z8K j0e Z94) [j8H] (oI 26 0 (jbv) oN) false Tryz.func179 λ_ _ k _ h=>aV h λ_ _ _ _ _ h=>aV h λ_ _ _ _ _ h=>nL h λ_ h=>nL h λ_ h=>by subst_vars;exact .trans (by kernel_rfl) h
end Go.PI.G
namespace Go.PI.G
open Go Go.PI Go.Proofs
open Go.Code (pl pr)
noncomputable def j1I (a:qL) (b:qL) (i:Int) (rec:Int->Res) (k0:Unit->Res) (k1:Unit->Res):Res:=
 bif decide (i<(nI (List.length a))) then
  bif inb i (List.length a) then
   bif inb i (List.length b) then
    bif sNe (nth eS a i) (nth eS b i) then
     k1 ()
    else
     rec (Z8o (i+1))
   else none
  else none
 else
  k0 ()
noncomputable def j7H (a:qL) (b:qL):Int->(Int->Res)->((Unit->Res)×(Unit->Res))->Res:=λv rec q=>j1I a b v (λi=>rec (i)) q.1 q.2
noncomputable def j5Y (a:qL) (b:qL) (n:Nat) (i:Int) (k0:Unit->Res) (k1:Unit->Res):Res:=Z14 (j7H a b) n (i) (k0,k1)
noncomputable def j8l:Z1q Unit:=λσ k=>rdN σ 26<|rd1 σ 0 y9 .S λa=>rd1 σ 1 y9 .S λb=>rdI σ 5 λi=>j5Y a b Z12 i (λ(_:Unit)=>k (.exit 0) (mkS 26 26 [] [])) (λ(_:Unit)=>k .ret (mkS 26 26 [(4,vB false)] []))
theorem jb0 {W0:Base} {M:Nat->Prop} (hnp:W0.np<=0):Z22 Tryz.prog W0 M (cAt 58 (bo Tryz.f89)) j8l:=j0b follows j00 Z94 hnp [] oN [0,1,5] [] ([],[]) [(0,[],[])] ([4],[]) λσ k _ h=>rN h λhn h=>rV h λa h0 h=>rV h λb h1 h=>rV h λi h5 h=>⟨_,Z9m (m:=26) hn (sC h0 (sC h1 (sC h5 sN))) bN,.trans (Z88 (λv:Int=>(mkS 26 26 [(0,v1 y9 a .S),(1,v1 y9 b .S),(5,vI v)] [])) (j7H a b) (λ(k:Z6O Unit)=>(((λ(_:Unit)=>k (.exit 0) (mkS 26 26 [] [])),(λ(_:Unit)=>k .ret (mkS 26 26 [(4,vB false)] []))):(Unit->Res)×(Unit->Res))) (λv rec k=>by kernel_rfl) Z12 (i) k) h⟩
noncomputable def j1a (a:qL) (b:qL) (k0:Bool->Res):Res:=
 bif ((nI (List.length a)) != (nI (List.length b))) then
  k0 false
 else
  j5Y a b Z12 0
   (λ(_:Unit)=>
    k0 true)
   (λ(_:Unit)=>
    k0 false)
noncomputable def j6D:Sig Unit:=⟨[.look y9 false,.look y9 false],[false],λvals ext k=>av vals y9 λa vals=>av vals y9 λb vals=>nl vals<|nl ext<|j1a a b (λ(r0:Bool)=>k [wB r0] [] [])⟩
theorem j91:Z1p Tryz.prog 89 j6D:=j04 (np:=0) follows j00 Z94 [j8l] (oI 58 0 (jb0) oN) false Tryz.func89 λ_ _ k _ h=>aV h λ_ _ _ _ _ h=>aV h λ_ _ _ _ _ h=>nL h λ_ h=>nL h λ_ h=>by subst_vars;exact .trans (by kernel_rfl) h
noncomputable def j1e (a:qL) (k_:Int) (i:Int) (rec:qL->Int->Int->Res) (k0:qL->Int->Res):Res:=
 bif decide (i<(nI (List.length a))) then
  j09 k_ λ(r:qB)=>
   bif inb i (List.length a) then
    rec (upd a i r) (Z8o (k_+1)) (Z8o (i+1))
   else none
 else
  k0 a k_
noncomputable def j4g:(qL×Int×Int)->(qL×Int×Int->Res)->((qL->Int->Res))->Res:=λv rec q=>j1e v.1 v.2.1 v.2.2 (λa k_ i=>rec (a,k_,i)) q
noncomputable def j51 (n:Nat) (a:qL) (k_:Int) (i:Int) (k0:qL->Int->Res):Res:=Z14 (j4g) n (a,k_,i) (k0)
noncomputable def j7z:Z1q Unit:=λσ k=>rdN σ 20<|rd1 σ 0 y9 .O λa=>rdI σ 1 λk_=>rdI σ 5 λi=>j51 Z12 a k_ i (λ(a1:qL) (k_1:Int)=>k (.exit 0) (mkS 20 20 [(0,v1 y9 a1 .O),(1,vI k_1)] []))
theorem jaj {W0:Base} {M:Nat->Prop} (hnp:W0.np<=1):Z22 Tryz.prog W0 M (cAt 26 (bo Tryz.f90)) j7z:=j0b follows j00 (Z8K j0e Z94) hnp [] oN [0,1,5] [] ([],[]) [(0,[0,1],[])] ([],[]) λσ k _ h=>rN h λhn h=>rV h λa h0 h=>rV h λk_ h1 h=>rV h λi h5 h=>⟨_,Z9m (m:=20) hn (sC h0 (sC h1 (sC h5 sN))) bN,.trans (Z88 (λv:qL×Int×Int=>(mkS 20 20 [(0,v1 y9 v.1 .O),(1,vI v.2.1),(5,vI v.2.2)] [])) (j4g) (λ(k:Z6O Unit)=>(((λ(a1:qL) (k_1:Int)=>k (.exit 0) (mkS 20 20 [(0,v1 y9 a1 .O),(1,vI k_1)] []))):(qL->Int->Res))) (λv rec k=>by kernel_rfl) Z12 (a,k_,i) k) h⟩
noncomputable def j16 (a:qL) (k_:Int) (k0:Int->qL->Res):Res:=
 j51 Z12 a k_ 0 λ(a1:qL) (k_1:Int)=>
  k0 k_1 a1
noncomputable def j5p:Sig Unit:=⟨[.inout y9 false,.borrow tI false],[false],λvals ext k=>ao vals y9 [.O] λa vals=>av vals tI λk_ vals=>nl vals<|nl ext<|j16 a k_ (λ(r0:Int) (i0:qL)=>k [wI r0] [w1 y9 i0 .O] [])⟩
theorem jaR:Z1p Tryz.prog 90 j5p:=j04 (np:=1) follows j00 (Z8K j0e Z94) [j7z] (oI 26 0 (jaj) oN) false Tryz.func90 λ_ _ k _ h=>aO h λ_ _ _ _ h=>aV h λ_ _ _ _ _ h=>nL h λ_ h=>nL h λ_ h=>by subst_vars;exact .trans (by kernel_rfl) h
noncomputable def j1c (a:qL) (k_:Int) (i:Int) (rec:Int->Int->Res) (k0:Int->Res) (k1:Unit->Res):Res:=
 bif decide (i<(nI (List.length a))) then
  bif inb i (List.length a) then
   j09 k_ λ(r:qB)=>
    bif sNe (nth eS a i) r then
     k1 ()
    else
     rec (Z8o (k_+1)) (Z8o (i+1))
  else none
 else
  k0 k_
noncomputable def j4e (a:qL):(Int×Int)->(Int×Int->Res)->((Int->Res)×(Unit->Res))->Res:=λv rec q=>j1c a v.1 v.2 (λk_ i=>rec (k_,i)) q.1 q.2
noncomputable def j4Z (a:qL) (n:Nat) (k_:Int) (i:Int) (k0:Int->Res) (k1:Unit->Res):Res:=Z14 (j4e a) n (k_,i) (k0,k1)
noncomputable def j7y:Z1q Unit:=λσ k=>rdN σ 22<|rd1 σ 0 y9 .S λa=>rdI σ 1 λk_=>rdI σ 5 λi=>j4Z a Z12 k_ i (λ(k_1:Int)=>k (.exit 0) (mkS 22 22 [(1,vI k_1)] [])) (λ(_:Unit)=>k .ret (mkS 22 22 [(4,vI (-1))] []))
theorem jai {W0:Base} {M:Nat->Prop} (hnp:W0.np<=0):Z22 Tryz.prog W0 M (cAt 26 (bo Tryz.f180)) j7y:=j0b follows j00 (Z8K j0e Z94) hnp [] oN [0,1,5] [] ([],[]) [(0,[1],[])] ([4],[]) λσ k _ h=>rN h λhn h=>rV h λa h0 h=>rV h λk_ h1 h=>rV h λi h5 h=>⟨_,Z9m (m:=22) hn (sC h0 (sC h1 (sC h5 sN))) bN,.trans (Z88 (λv:Int×Int=>(mkS 22 22 [(0,v1 y9 a .S),(1,vI v.1),(5,vI v.2)] [])) (j4e a) (λ(k:Z6O Unit)=>(((λ(k_1:Int)=>k (.exit 0) (mkS 22 22 [(1,vI k_1)] [])),(λ(_:Unit)=>k .ret (mkS 22 22 [(4,vI (-1))] []))):(Int->Res)×(Unit->Res))) (λv rec k=>by kernel_rfl) Z12 (k_,i) k) h⟩
noncomputable def j15 (a:qL) (k_:Int) (k0:Int->Res):Res:=
 j4Z a Z12 k_ 0
  (λ(k_1:Int)=>
   k0 k_1)
  (λ(_:Unit)=>
   k0 (-1))
noncomputable def j5o:Sig Unit:=⟨[.look y9 false,.look tI false],[false],λvals ext k=>av vals y9 λa vals=>av vals tI λk_ vals=>nl vals<|nl ext<|j15 a k_ (λ(r0:Int)=>k [wI r0] [] [])⟩
theorem jaQ:Z1p Tryz.prog 180 j5o:=j04 (np:=0) follows j00 (Z8K j0e Z94) [j7y] (oI 26 0 (jai) oN) false Tryz.func180 λ_ _ k _ h=>aV h λ_ _ _ _ _ h=>aV h λ_ _ _ _ _ h=>nL h λ_ h=>nL h λ_ h=>by subst_vars;exact .trans (by kernel_rfl) h
end Go.PI.G
namespace Go.PI.G
open Go Go.PI Go.Proofs
open Go.Code (pl pr)
noncomputable def j5J (a:qG) (b:qG) (k0:Bool->Res):Res:=
 bif (a.1 != b.1) then
  k0 false
 else
  bif sNe a.2.1 b.2.1 then
   k0 false
  else
   j6f a.2.2.1 b.2.2.1 λ(r:Bool)=>
    bif !r then
     k0 false
    else
     j1a a.2.2.2.1 b.2.2.2.1 λ(r1:Bool)=>
      bif !r1 then
       k0 false
      else
       bif sNe a.2.2.2.2.1 b.2.2.2.2.1 then
        k0 false
       else
        bif sNe a.2.2.2.2.2 b.2.2.2.2.2 then
         k0 false
        else
         k0 true
noncomputable def jbb:Sig Unit:=⟨[.look y14 true,.look y14 true],[false],λvals ext k=>av vals y14 λa vals=>av vals y14 λb vals=>nl vals<|nl ext<|j5J a b (λ(r0:Bool)=>k [wB r0] [] [])⟩
theorem jev:Z1p Tryz.prog 296 jbb:=j04 (np:=0) follows j00 (Z8K j91 (Z8K je6 Z94)) [] oN false Tryz.func296 λ_ _ k _ h=>aV h λ_ _ _ _ _ h=>aV h λ_ _ _ _ _ h=>nL h λ_ h=>nL h λ_ h=>by subst_vars;exact .trans (by delta j5J jaC j6D;refine gz j6f λ_ e=> ?_;rewrite [<-e];refine gz j1a λ_ e=> ?_;rewrite [<-e];kernel_rfl) h
end Go.PI.G
