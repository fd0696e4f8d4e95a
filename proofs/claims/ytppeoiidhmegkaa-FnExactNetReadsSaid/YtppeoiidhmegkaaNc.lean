/-
  Program's code interpreted over typed values; printed texts; plain laws. No conditions.
-/
import Derived.Test.YtppeoiidhmegkaaNa
import Derived.Test.YtppeoiidhmegkaaNb
set_option linter.unusedVariables false
set_option maxRecDepth 100000
namespace Go.PI.G
open Go Go.PI Go.Proofs
open Go.Code (pl pr)
theorem j8V:Fns Try.prog [(41,j0c),(42,j0i)]:=(Z8K j28 (Z8K j3e Z94))
noncomputable def j1a (n_:Int) (out:qL) (i:Int) (e0:List Int×Int) (rec:qL->Int->(List Int×Int)->Res) (k0:qL->(List Int×Int)->Res):Res:=
 bif decide (i<n_) then
  bif decide (i<=8) then
   j00 1 e0 λ(r:Int) (bt26:List Int×Int)=>
    j02 r bt26 λ(r1:qB) (bt261:List Int×Int)=>
     bif lim ((List.length out)+1) then
      rec (out++[r1]) (Z8o (i+1)) bt261
     else none
  else
   k0 out e0
 else
  k0 out e0
noncomputable def j3b (n_:Int):(qL×Int×(List Int×Int))->(qL×Int×(List Int×Int)->Res)->((qL->(List Int×Int)->Res))->Res:=λv rec q=>j1a n_ v.1 v.2.1 v.2.2 (λout i e0=>rec (out,i,e0)) q
noncomputable def j6o (n_:Int) (n:Nat) (out:qL) (i:Int) (e0:List Int×Int) (k0:qL->(List Int×Int)->Res):Res:=Z14 (j3b n_) n (out,i,e0) (k0)
noncomputable def j5Q:Z1q Unit:=λσ k=>rdN σ 26<|rdT σ 0 (pB 26)<|rd1 σ 3 y9 .O λout=>rdI σ 4 λn_=>rdI σ 5 λi=>rdB σ 26 y23 [.S] λa e0=>j6o n_ Z12 out i e0 (λ(out1:qL) (e01:List Int×Int)=>k (.exit 0) (mkS 26 27 [(3,v1 y9 out1 .O)] [(26,⟨y23,a,e01,[.S]⟩)]))
theorem jaO {W0:Base} {M:Nat->Prop} (hnp:W0.np<=0):Z22 Try.prog W0 M (cAt 122 (bo Try.f122)) j5Q:=j0b follows j01 j8V hnp [] oN [0,3,4,5] [26] ([],[]) [(0,[3],[26])] ([],[]) λσ k _ h=>rN h λhn h=>rT h λh0 h=>rV h λout h3 h=>rV h λn_ h4 h=>rV h λi h5 h=>rB h λa e0 hb26 h=>⟨_,Z9m (m:=27) hn (sC h0 (sC h3 (sC h4 (sC h5 sN)))) (bC hb26 bN),.trans (Z88 (λv:qL×Int×(List Int×Int)=>(mkS 26 27 [(0,pB 26),(3,v1 y9 v.1 .O),(4,vI n_),(5,vI v.2.1)] [(26,⟨y23,a,v.2.2,[.S]⟩)])) (j3b n_) (λ(k:Z6O Unit)=>(((λ(out1:qL) (e01:List Int×Int)=>k (.exit 0) (mkS 26 27 [(3,v1 y9 out1 .O)] [(26,⟨y23,a,e01,[.S]⟩)]))):(qL->(List Int×Int)->Res))) (λv rec k=>by delta j3b j1a j0c j0i;refine gz j00 λ_ e=> ?_;rewrite [<-e];refine gz j02 λ_ e=> ?_;rewrite [<-e];kernel_rfl) Z12 (out,i,e0) k) h⟩
noncomputable def j1C (e0:List Int×Int) (k0:qL->(List Int×Int)->Res):Res:=
 j00 1 e0 λ(r:Int) (bt26:List Int×Int)=>
  j6o r Z12 [] 0 bt26 λ(out:qL) (e:List Int×Int)=>
   k0 out e
noncomputable def j6X:Sig Unit:=⟨[.ptr y23],[false],λvals ext k=>nl vals<|ab ext y23 [.S] λa e0 ext=>nl ext<|j1C e0 (λ(r0:qL) (x0:List Int×Int)=>k [w1 y9 r0 .O] [] [⟨y23,a,x0,[.S]⟩])⟩
theorem jbX:Z1p Try.prog 122 j6X:=j04 (np:=0) follows j01 j8V [j5Q] (oI 122 0 (jaO) oN) false Try.func122 λ_ _ k _ h=>nL h λ_ h=>aB h λ_ _ _ _ h=>nL h λ_ h=>by subst_vars;exact .trans (by delta j1C j0c j5Q;refine gz j00 λ_ e=> ?_;rewrite [<-e];refine gz j6o λ_ e=> ?_;rewrite [<-e];kernel_rfl) h
noncomputable def j1D (t5:qL) (t6:Int) (t7:Int) (rec:Int->Res) (k0:Unit->Res) (k1:Unit->Res):Res:=
 bif decide (t7<t6) then
  bif inb t7 (List.length t5) then
   j0l (nth eS t5 t7) λ(r:Bool)=>
    bif !r then
     k1 ()
    else
     rec (Z8o (t7+1))
  else none
 else
  k0 ()
noncomputable def j4w (t5:qL) (t6:Int):Int->(Int->Res)->((Unit->Res)×(Unit->Res))->Res:=λv rec q=>j1D t5 t6 v (λt7=>rec (t7)) q.1 q.2
noncomputable def j5H (t5:qL) (t6:Int) (n:Nat) (t7:Int) (k0:Unit->Res) (k1:Unit->Res):Res:=Z14 (j4w t5 t6) n (t7) (k0,k1)
noncomputable def j7D:Z1q Unit:=λσ k=>rdN σ 18<|rd1 σ 0 y9 .S λl=>rd1 σ 5 y9 .S λt5=>rdI σ 6 λt6=>rdI σ 7 λt7=>j5H t5 t6 Z12 t7 (λ(_:Unit)=>k (.exit 0) (mkS 18 18 [(0,v1 y9 l .S)] [])) (λ(_:Unit)=>k .ret (mkS 18 18 [(2,vB false)] []))
theorem jah {W0:Base} {M:Nat->Prop} (hnp:W0.np<=0):Z22 Try.prog W0 M (cAt 26 (bo Try.f197)) j7D:=j0b follows j01 (Z8K j1F Z94) hnp [] oN [0,5,6,7] [] ([],[]) [(0,[0],[])] ([2],[]) λσ k _ h=>rN h λhn h=>rV h λl h0 h=>rV h λt5 h5 h=>rV h λt6 h6 h=>rV h λt7 h7 h=>⟨_,Z9m (m:=18) hn (sC h0 (sC h5 (sC h6 (sC h7 sN)))) bN,.trans (Z88 (λv:Int=>(mkS 18 18 [(0,v1 y9 l .S),(5,v1 y9 t5 .S),(6,vI t6),(7,vI v)] [])) (j4w t5 t6) (λ(k:Z6O Unit)=>(((λ(_:Unit)=>k (.exit 0) (mkS 18 18 [(0,v1 y9 l .S)] [])),(λ(_:Unit)=>k .ret (mkS 18 18 [(2,vB false)] []))):(Unit->Res)×(Unit->Res))) (λv rec k=>by kernel_rfl) Z12 (t7) k) h⟩
noncomputable def j2E (l:qL) (k0:Bool->Res):Res:=
 j5H l (nI (List.length l)) Z12 0
  (λ(_:Unit)=>
   k0 (decide ((nI (List.length l))<=8)))
  (λ(_:Unit)=>
   k0 false)
noncomputable def j6k:Sig Unit:=⟨[.look y9 false],[false],λvals ext k=>av vals y9 λl vals=>nl vals<|nl ext<|j2E l (λ(r0:Bool)=>k [wB r0] [] [])⟩
theorem jba:Z1p Try.prog 197 j6k:=j04 (np:=0) follows j01 (Z8K j1F Z94) [j7D] (oI 26 0 (jah) oN) false Try.func197 λ_ _ k _ h=>aV h λ_ _ _ _ _ h=>nL h λ_ h=>nL h λ_ h=>by subst_vars;exact .trans (by kernel_rfl) h
theorem j6B:Fns Try.prog [(103,j5m),(197,j6k)]:=(Z8K j9t (Z8K jba Z94))
noncomputable def j2Q (b:Int×Int×List (qS×qL×qL)) (k0:Bool->Res):Res:=
 bif decide (b.1<1) then
  k0 true
 else
  bif decide (b.1>400) then
   k0 true
  else
   bif decide (b.2.1<0) then
    k0 true
   else
    bif decide (b.2.1>=b.1) then
     k0 true
    else
     k0 (decide ((nI (List.length b.2.2))>60))
noncomputable def j3M:Z1q Unit:=λσ k=>rdN σ 55<|rdT σ 1 (pB 1)<|rdB σ 1 y30 [.S] λa b=>j2Q b (λ(t30:Bool)=>k .normal (mkS 55 55 [(1,pB 1),(30,vB t30)] [(1,⟨y30,a,b,[.S]⟩)]))
theorem jaH {W0:Base} {M:Nat->Prop} (hnp:W0.np<=0):Z22 Try.prog W0 M (cAt 12 (bo Try.f160)) j3M:=j2s follows j01 j6B hnp [] oN ([1,30],[1]) [] ([],[]) λσ k _ h=>rN h λhn h=>rT h λh1 h=>rB h λa b hb1 h=>⟨_,Z9m (m:=55) hn (sC h1 sN) (bC hb1 bN),.trans (by kernel_rfl) h⟩
noncomputable def j18 (t32:List (qS×qL×qL)) (t33:Int) (t34:Int) (rec:Int->Res) (k0:Unit->Res) (k1:Unit->Res):Res:=
 bif decide (t34<t33) then
  bif inb t34 (List.length t32) then
   j27 (nth ((0,eS,[],[],0,eS,[],[],eS,eS),[],[]) t32 t34).1 λ(r:Bool)=>
    bif !r then
     k1 ()
    else
     j2E (nth ((0,eS,[],[],0,eS,[],[],eS,eS),[],[]) t32 t34).2.1 λ(r1:Bool)=>
      bif !r1 then
       k1 ()
      else
       j2E (nth ((0,eS,[],[],0,eS,[],[],eS,eS),[],[]) t32 t34).2.2 λ(r2:Bool)=>
        bif !r2 then
         k1 ()
        else
         rec (Z8o (t34+1))
  else none
 else
  k0 ()
noncomputable def j39 (t32:List (qS×qL×qL)) (t33:Int):Int->(Int->Res)->((Unit->Res)×(Unit->Res))->Res:=λv rec q=>j18 t32 t33 v (λt34=>rec (t34)) q.1 q.2
noncomputable def j4e (t32:List (qS×qL×qL)) (t33:Int) (n:Nat) (t34:Int) (k0:Unit->Res) (k1:Unit->Res):Res:=Z14 (j39 t32 t33) n (t34) (k0,k1)
noncomputable def j5N:Z1q Unit:=λσ k=>rdN σ 55<|rd1 σ 32 y28 .S λt32=>rdI σ 33 λt33=>rdI σ 34 λt34=>j4e t32 t33 Z12 t34 (λ(_:Unit)=>k (.exit 0) (mkS 55 55 [] [])) (λ(_:Unit)=>k .ret (mkS 55 55 [(2,vB false)] []))
theorem jaG {W0:Base} {M:Nat->Prop} (hnp:W0.np<=0):Z22 Try.prog W0 M (cAt 58 (bo Try.f160)) j5N:=j0b follows j01 j6B hnp [j3M] oN [32,33,34] [] ([],[]) [(0,[],[])] ([2],[]) λσ k _ h=>rN h λhn h=>rV h λt32 h32 h=>rV h λt33 h33 h=>rV h λt34 h34 h=>⟨_,Z9m (m:=55) hn (sC h32 (sC h33 (sC h34 sN))) bN,.trans (Z88 (λv:Int=>(mkS 55 55 [(32,v1 y28 t32 .S),(33,vI t33),(34,vI v)] [])) (j39 t32 t33) (λ(k:Z6O Unit)=>(((λ(_:Unit)=>k (.exit 0) (mkS 55 55 [] [])),(λ(_:Unit)=>k .ret (mkS 55 55 [(2,vB false)] []))):(Unit->Res)×(Unit->Res))) (λv rec k=>by delta j39 j18 j5m j6k;refine gz j27 λ_ e=> ?_;rewrite [<-e];refine gz j2E λ_ e=> ?_;rewrite [<-e];kernel_rfl) Z12 (t34) k) h⟩
noncomputable def j3n (b:Int×Int×List (qS×qL×qL)) (k0:Bool->Res):Res:=
 j2Q b λ(t:Bool)=>
  bif t then
   k0 false
  else
   j4e b.2.2 (nI (List.length b.2.2)) Z12 0
    (λ(_:Unit)=>
     k0 true)
    (λ(_:Unit)=>
     k0 false)
noncomputable def j6S:Sig Unit:=⟨[.look y30 true],[false],λvals ext k=>av vals y30 λb vals=>nl vals<|nl ext<|j3n b (λ(r0:Bool)=>k [wB r0] [] [])⟩
theorem jbS:Z1p Try.prog 160 j6S:=j04 (np:=0) follows j01 j6B [j3M,j5N] (oI 12 0 (jaH) (oI 58 1 (jaG) oN)) false Try.func160 λ_ _ k _ h=>aV h λ_ _ _ _ _ h=>nL h λ_ h=>nL h λ_ h=>by subst_vars;exact .trans (by delta j3n j3M j5N;refine gz j2Q λ_ e=> ?_;rewrite [<-e];refine gz j4e λ_ e=> ?_;rewrite [<-e];kernel_rfl) h
noncomputable def j2o (t13:qL) (t14:Int) (b:List Int) (t15:Int) (rec:(List Int)->Int->Res) (k0:(List Int)->Res):Res:=
 bif decide (t15<t14) then
  bif inb t15 (List.length t13) then
   j0v b (nth eS t13 t15) λ(r:List Int)=>
    rec r (Z8o (t15+1))
  else none
 else
  k0 b
noncomputable def j5G (t13:qL) (t14:Int):((List Int)×Int)->((List Int)×Int->Res)->(((List Int)->Res))->Res:=λv rec q=>j2o t13 t14 v.1 v.2 (λb t15=>rec (b,t15)) q
noncomputable def j71 (t13:qL) (t14:Int) (n:Nat) (b:List Int) (t15:Int) (k0:(List Int)->Res):Res:=Z14 (j5G t13 t14) n (b,t15) (k0)
noncomputable def j8D:Z1q Unit:=λσ k=>rdN σ 24<|rd1 σ 0 y0 .O λb=>rd1 σ 13 y9 .S λt13=>rdI σ 14 λt14=>rdI σ 15 λt15=>j71 t13 t14 Z12 b t15 (λ(b1:List Int)=>k (.exit 0) (mkS 24 24 [(0,v1 y0 b1 .O)] []))
theorem jbB {W0:Base} {M:Nat->Prop} (hnp:W0.np<=0):Z22 Try.prog W0 M (cAt 58 (bo Try.f162)) j8D:=j0b follows j01 (Z8K j4E Z94) hnp [] oN [0,13,14,15] [] ([],[]) [(0,[0],[])] ([],[]) λσ k _ h=>rN h λhn h=>rV h λb h0 h=>rV h λt13 h13 h=>rV h λt14 h14 h=>rV h λt15 h15 h=>⟨_,Z9m (m:=24) hn (sC h0 (sC h13 (sC h14 (sC h15 sN)))) bN,.trans (Z88 (λv:(List Int)×Int=>(mkS 24 24 [(0,v1 y0 v.1 .O),(13,v1 y9 t13 .S),(14,vI t14),(15,vI v.2)] [])) (j5G t13 t14) (λ(k:Z6O Unit)=>(((λ(b1:List Int)=>k (.exit 0) (mkS 24 24 [(0,v1 y0 b1 .O)] []))):((List Int)->Res))) (λv rec k=>by kernel_rfl) Z12 (b,t15) k) h⟩
noncomputable def j40 (b:List Int) (l:qL) (k0:(List Int)->Res):Res:=
 bif lim ((List.length b)+1) then
  j71 l (nI (List.length l)) Z12 (b++[wu8 (nI (List.length l))]) 0 λ(b1:List Int)=>
   k0 b1
 else none
noncomputable def j7q:Sig Unit:=⟨[.eat y0 false,.borrow y9 false],[false],λvals ext k=>ao vals y0 [.O] λb vals=>av vals y9 λl vals=>nl vals<|nl ext<|j40 b l (λ(r0:List Int)=>k [w1 y0 r0 .O] [] [])⟩
theorem jcH:Z1p Try.prog 162 j7q:=j04 (np:=0) follows j01 (Z8K j4E Z94) [j8D] (oI 58 0 (jbB) oN) false Try.func162 λ_ _ k _ h=>aO h λ_ _ _ _ h=>aV h λ_ _ _ _ _ h=>nL h λ_ h=>nL h λ_ h=>by subst_vars;exact .trans (by kernel_rfl) h
theorem j9k:Fns Try.prog [(45,j2g),(160,j6S),(161,j2A),(162,j7q),(163,j9b)]:=(Z8K j7T (Z8K jbS (Z8K j9s (Z8K jcH (Z8K jdN Z94)))))
noncomputable def j1r (t36:List (qS×qL×qL)) (t37:Int) (b:List Int) (t38:Int) (rec:(List Int)->Int->Res) (k0:(List Int)->Res):Res:=
 bif decide (t38<t37) then
  bif inb t38 (List.length t36) then
   j0w (nth ((0,eS,[],[],0,eS,[],[],eS,eS),[],[]) t36 t38).1 λ(r:List Int) (r1:Bool)=>
    j0e b (nI (List.length r)) 2 λ(r2:List Int) (r3:Bool)=>
     bif lim ((List.length r2)+(List.length r)) then
      j40 (r2++r) (nth ((0,eS,[],[],0,eS,[],[],eS,eS),[],[]) t36 t38).2.1 λ(r4:List Int)=>
       j40 r4 (nth ((0,eS,[],[],0,eS,[],[],eS,eS),[],[]) t36 t38).2.2 λ(r5:List Int)=>
        rec r5 (Z8o (t38+1))
     else none
  else none
 else
  k0 b
noncomputable def j3I (t36:List (qS×qL×qL)) (t37:Int):((List Int)×Int)->((List Int)×Int->Res)->(((List Int)->Res))->Res:=λv rec q=>j1r t36 t37 v.1 v.2 (λb t38=>rec (b,t38)) q
noncomputable def j4U (t36:List (qS×qL×qL)) (t37:Int) (n:Nat) (b:List Int) (t38:Int) (k0:(List Int)->Res):Res:=Z14 (j3I t36 t37) n (b,t38) (k0)
noncomputable def j6v:Z1q Unit:=λσ k=>rdN σ 74<|rdT σ 2 (pB 2)<|rd1 σ 4 y0 .O λb=>rd1 σ 36 y28 .S λt36=>rdI σ 37 λt37=>rdI σ 38 λt38=>rdB σ 2 y0 [.O] λa t2=>j4U t36 t37 Z12 b t38 (λ(b1:List Int)=>k (.exit 0) (mkS 74 74 [(2,pB 2),(4,v1 y0 b1 .O)] [(2,⟨y0,a,t2,[.O]⟩)]))
theorem jbs {W0:Base} {M:Nat->Prop} (hnp:W0.np<=0):Z22 Try.prog W0 M (cAt 506 (bo Try.f123)) j6v:=j0b follows j01 j9k hnp [] oN [2,4,36,37,38] [2] ([],[]) [(0,[2,4],[2])] ([],[]) λσ k _ h=>rN h λhn h=>rT h λh2 h=>rV h λb h4 h=>rV h λt36 h36 h=>rV h λt37 h37 h=>rV h λt38 h38 h=>rB h λa t2 hb2 h=>⟨_,Z9m (m:=74) hn (sC h2 (sC h4 (sC h36 (sC h37 (sC h38 sN))))) (bC hb2 bN),.trans (Z88 (λv:(List Int)×Int=>(mkS 74 74 [(2,pB 2),(4,v1 y0 v.1 .O),(36,v1 y28 t36 .S),(37,vI t37),(38,vI v.2)] [(2,⟨y0,a,t2,[.O]⟩)])) (j3I t36 t37) (λ(k:Z6O Unit)=>(((λ(b1:List Int)=>k (.exit 0) (mkS 74 74 [(2,pB 2),(4,v1 y0 b1 .O)] [(2,⟨y0,a,t2,[.O]⟩)]))):((List Int)->Res))) (λv rec k=>by delta j3I j1r j2g j2A j7q;refine gz j0w λ_ e=> ?_;rewrite [<-e];refine gz j0e λ_ e=> ?_;rewrite [<-e];refine gz j40 λ_ e=> ?_;rewrite [<-e];kernel_rfl) Z12 (b,t38) k) h⟩
noncomputable def j35 (x:Int×Int×List (qS×qL×qL)) (k0:(List Int)->Bool->Res):Res:=
 j3n x λ(r:Bool)=>
  bif !r then
   k0 [] false
  else
   j0e [80] x.1 2 λ(r1:List Int) (r2:Bool)=>
    j0e r1 x.2.1 2 λ(r3:List Int) (r4:Bool)=>
     bif lim ((List.length r3)+1) then
      j4U x.2.2 (nI (List.length x.2.2)) Z12 (r3++[wu8 (nI (List.length x.2.2))]) 0 λ(b:List Int)=>
       j5C b λ(r5:Int)=>
        j0e b r5 3 λ(r6:List Int) (r7:Bool)=>
         k0 r6 true
     else none
noncomputable def j7p:Sig Unit:=⟨[.borrow y30 true],[true,false],λvals ext k=>av vals y30 λx vals=>nl vals<|nl ext<|j35 x (λ(r0:List Int) (r1:Bool)=>k [⟨y0,true,r0,[.O]⟩,wB r1] [] [])⟩
theorem jcE:Z1p Try.prog 123 j7p:=j04 (np:=0) follows j01 j9k [j6v] (oI 506 0 (jbs) oN) false Try.func123 λ_ _ k _ h=>aV h λ_ _ _ _ _ h=>nL h λ_ h=>nL h λ_ h=>by subst_vars;exact .trans (by delta j35 j6S j2A j6v j9b;refine gz j3n λ_ e=> ?_;rewrite [<-e];refine gz j0e λ_ e=> ?_;rewrite [<-e];refine gz j4U λ_ e=> ?_;rewrite [<-e];refine gz j5C λ_ e=> ?_;rewrite [<-e];kernel_rfl) h
theorem j8m:Fns Try.prog [(8,j6g),(41,j0c),(42,j0i),(122,j6X),(123,j7p)]:=(Z8K jb7 (Z8K j28 (Z8K j3e (Z8K jbX (Z8K jcE Z94)))))
noncomputable def j0V (n_:Int) (i:Int) (x:Int×Int×List (qS×qL×qL)) (t16:List Int×Int) (rec:Int->(Int×Int×List (qS×qL×qL))->(List Int×Int)->Res) (k0:(Int×Int×List (qS×qL×qL))->Res):Res:=
 bif decide (i<n_) then
  bif decide (i<=60) then
   j00 2 t16 λ(r:Int) (bt16:List Int×Int)=>
    j02 r bt16 λ(r1:qB) (bt161:List Int×Int)=>
     bif lim (ByteArray.size r1) then
      j0P (Z1e r1) λ(r2:qS) (r3:Bool)=>
       j1C bt161 λ(r4:qL) (bt162:List Int×Int)=>
        j1C bt162 λ(r5:qL) (bt163:List Int×Int)=>
         bif lim ((List.length x.2.2)+1) then
          rec (Z8o (i+1)) (x.1,x.2.1,(x.2.2++[(r2,r4,r5)])) bt163
         else none
     else none
  else
   k0 x
 else
  k0 x
noncomputable def j2T (n_:Int):(Int×(Int×Int×List (qS×qL×qL))×(List Int×Int))->(Int×(Int×Int×List (qS×qL×qL))×(List Int×Int)->Res)->(((Int×Int×List (qS×qL×qL))->Res))->Res:=λv rec q=>j0V n_ v.1 v.2.1 v.2.2 (λi x t16=>rec (i,x,t16)) q
noncomputable def j5z (n_:Int) (n:Nat) (i:Int) (x:Int×Int×List (qS×qL×qL)) (t16:List Int×Int) (k0:(Int×Int×List (qS×qL×qL))->Res):Res:=Z14 (j2T n_) n (i,x,t16) (k0)
noncomputable def j5b:Z1q Unit:=λσ k=>rdN σ 74<|rdT σ 1 (pB 1)<|rdT σ 2 (pB 2)<|rdT σ 4 (pB 16)<|rdT σ 5 (pB 5)<|rdI σ 6 λn_=>rdI σ 7 λi=>rdB σ 1 y0 [.S] λa p=>rdB σ 2 y30 [.O] λa1 t2=>rdB σ 5 y30 [.O] λa2 x=>rdB σ 16 y23 [.S] λa3 t16=>j5z n_ Z12 i x t16 (λ(x1:Int×Int×List (qS×qL×qL))=>k (.exit 0) (mkS 74 74 [(1,pB 1),(2,pB 2),(5,pB 5)] [(1,⟨y0,a,p,[.S]⟩),(2,⟨y30,a1,t2,[.O]⟩),(5,⟨y30,a2,x1,[.O]⟩)]))
theorem jad {W0:Base} {M:Nat->Prop} (hnp:W0.np<=0):Z22 Try.prog W0 M (cAt 250 (bo Try.f64)) j5b:=j0b follows j01 j8m hnp [] oN [1,2,4,5,6,7] [1,2,5,16] ([],[]) [(0,[1,2,5],[1,2,5])] ([],[]) λσ k _ h=>rN h λhn h=>rT h λh1 h=>rT h λh2 h=>rT h λh4 h=>rT h λh5 h=>rV h λn_ h6 h=>rV h λi h7 h=>rB h λa p hb1 h=>rB h λa1 t2 hb2 h=>rB h λa2 x hb5 h=>rB h λa3 t16 hb16 h=>⟨_,Z9m (m:=74) hn (sC h1 (sC h2 (sC h4 (sC h5 (sC h6 (sC h7 sN)))))) (bC hb1 (bC hb2 (bC hb5 (bC hb16 bN)))),.trans (Z88 (λv:Int×(Int×Int×List (qS×qL×qL))×(List Int×Int)=>(mkS 74 74 [(1,pB 1),(2,pB 2),(4,pB 16),(5,pB 5),(6,vI n_),(7,vI v.1)] [(1,⟨y0,a,p,[.S]⟩),(2,⟨y30,a1,t2,[.O]⟩),(5,⟨y30,a2,v.2.1,[.O]⟩),(16,⟨y23,a3,v.2.2,[.S]⟩)])) (j2T n_) (λ(k:Z6O Unit)=>(((λ(x1:Int×Int×List (qS×qL×qL))=>k (.exit 0) (mkS 74 74 [(1,pB 1),(2,pB 2),(5,pB 5)] [(1,⟨y0,a,p,[.S]⟩),(2,⟨y30,a1,t2,[.O]⟩),(5,⟨y30,a2,x1,[.O]⟩)]))):((Int×Int×List (qS×qL×qL))->Res))) (λv rec k=>by delta j2T j0V j0c j0i j6g j6X;refine gz j00 λ_ e=> ?_;rewrite [<-e];refine gz j02 λ_ e=> ?_;rewrite [<-e];refine gz j0P λ_ e=> ?_;rewrite [<-e];refine gz j1C λ_ e=> ?_;rewrite [<-e];kernel_rfl) Z12 (i,x,t16) k) h⟩
noncomputable def j2C (p:List Int) (k0:(Int×Int×List (qS×qL×qL))->Bool->Res):Res:=
 j00 2 (p,1) λ(r:Int) (bt16:List Int×Int)=>
  j00 2 bt16 λ(r1:Int) (bt161:List Int×Int)=>
   j00 1 bt161 λ(r2:Int) (bt162:List Int×Int)=>
    j5z r2 Z12 0 (r,r1,[]) bt162 λ(x:Int×Int×List (qS×qL×qL))=>
     j35 x λ(r3:List Int) (r4:Bool)=>
      bif !r4 then
       k0 (0,0,[]) false
      else
       bif sNe (Z34 r3) (Z34 p) then
        k0 (0,0,[]) false
       else
        k0 x true
noncomputable def j8x:Sig Unit:=⟨[.borrow y0 true],[true,false],λvals ext k=>av vals y0 λp vals=>nl vals<|nl ext<|j2C p (λ(r0:Int×Int×List (qS×qL×qL)) (r1:Bool)=>k [⟨y30,true,r0,[.O]⟩,wB r1] [] [])⟩
theorem jb6:Z1p Try.prog 64 j8x:=j04 (np:=0) follows j01 j8m [j5b] (oI 250 0 (jad) oN) false Try.func64 λ_ _ k _ h=>aV h λ_ _ _ _ _ h=>nL h λ_ h=>nL h λ_ h=>by subst_vars;exact .trans (by delta j2C j0c j5b j7p;refine gz j00 λ_ e=> ?_;rewrite [<-e];refine gz j5z λ_ e=> ?_;rewrite [<-e];refine gz j35 λ_ e=> ?_;rewrite [<-e];kernel_rfl) h
noncomputable def j6F (s:qB) (k0:Bool->Res):Res:=
 j0k s λ(r:Bool)=>
  k0 (!r)
noncomputable def jaP:Sig Unit:=⟨[.look .str false],[false],λvals ext k=>av vals .str λs vals=>nl vals<|nl ext<|j6F s (λ(r0:Bool)=>k [wB r0] [] [])⟩
theorem j7Q:Z1p Try.prog 216 jaP:=j04 (np:=0) follows j01 (Z8K j3O Z94) [] oN false Try.func216 λ_ _ k _ h=>aV h λ_ _ _ _ _ h=>nL h λ_ h=>nL h λ_ h=>by subst_vars;exact .trans (by kernel_rfl) h
noncomputable def j0r (s:qL) (t7:Int) (t8:Int) (rec:Int->Res) (k0:Unit->Res) (k1:Int->Res):Res:=
 bif decide (t8<t7) then
  bif inb t8 (List.length s) then
   j6F (nth eS s t8) λ(r:Bool)=>
    bif r then
     k1 t8
    else
     rec (Z8o (t8+1))
  else none
 else
  k0 ()
noncomputable def j1q (s:qL) (t7:Int):Int->(Int->Res)->((Unit->Res)×(Int->Res))->Res:=λv rec q=>j0r s t7 v (λt8=>rec (t8)) q.1 q.2
noncomputable def j1K (s:qL) (t7:Int) (n:Nat) (t8:Int) (k0:Unit->Res) (k1:Int->Res):Res:=Z14 (j1q s t7) n (t8) (k0,k1)
noncomputable def j3w:Z1q Unit:=λσ k=>rdN σ 19<|rd1 σ 0 y9 .S λs=>rdC σ 1 216 [] .unit [] λf=>rdI σ 7 λt7=>rdI σ 8 λt8=>j1K s t7 Z12 t8 (λ(_:Unit)=>k (.exit 0) (mkS 19 19 [] [])) (λ(t4:Int)=>k .ret (mkS 19 19 [(4,vI t4)] []))
theorem j7e {W0:Base} {M:Nat->Prop} (hnp:W0.np<=0):Z22 Try.prog W0 M (cAt 26 (bo Try.f129)) j3w:=j0b follows j01 (Z8K j7Q Z94) hnp [] oN [0,1,7,8] [] ([],[]) [(0,[],[])] ([4],[]) λσ k _ h=>rN h λhn h=>rV h λs h0 h=>rC h λf h1 h=>rV h λt7 h7 h=>rV h λt8 h8 h=>⟨_,Z9m (m:=19) hn (sC h0 (sC h1 (sC h7 (sC h8 sN)))) bN,.trans (Z88 (λv:Int=>(mkS 19 19 [(0,v1 y9 s .S),(1,.sclos 216 [] ⟨.unit,false,f,[]⟩),(7,vI t7),(8,vI v)] [])) (j1q s t7) (λ(k:Z6O Unit)=>(((λ(_:Unit)=>k (.exit 0) (mkS 19 19 [] [])),(λ(t4:Int)=>k .ret (mkS 19 19 [(4,vI t4)] []))):(Unit->Res)×(Int->Res))) (λv rec k=>by kernel_rfl) Z12 (t8) k) h⟩
noncomputable def j2x (s:qL) (f:Unit) (k0:Int->Res):Res:=
 j1K s (nI (List.length s)) Z12 0
  (λ(_:Unit)=>
   k0 (-1))
  (λ(t:Int)=>
   k0 t)
noncomputable def j7I:Sig Unit:=⟨[.look y9 false,.rclos 216 []],[false],λvals ext k=>av vals y9 λs vals=>av vals .unit λf vals=>nl vals<|nl ext<|j2x s f (λ(r0:Int)=>k [wI r0] [] [])⟩
theorem j7F:Z1p Try.prog 129 j7I:=j04 (np:=0) follows j01 (Z8K j7Q Z94) [j3w] (oI 26 0 (j7e) oN) false Try.func129 λ_ _ k _ h=>aV h λ_ _ _ _ _ h=>aV h λ_ _ _ _ _ h=>nL h λ_ h=>nL h λ_ h=>by subst_vars;exact .trans (by kernel_rfl) h
noncomputable def j1J (s:qL) (f:Unit) (k0:Bool->Res):Res:=
 j2x s f λ(r:Int)=>
  k0 (decide (r>=0))
noncomputable def j6R:Sig Unit:=⟨[.look y9 false,.rclos 216 []],[false],λvals ext k=>av vals y9 λs vals=>av vals .unit λf vals=>nl vals<|nl ext<|j1J s f (λ(r0:Bool)=>k [wB r0] [] [])⟩
theorem j6C:Z1p Try.prog 215 j6R:=j04 (np:=0) follows j01 (Z8K j7F Z94) [] oN false Try.func215 λ_ _ k _ h=>aV h λ_ _ _ _ _ h=>aV h λ_ _ _ _ _ h=>nL h λ_ h=>nL h λ_ h=>by subst_vars;exact .trans (by kernel_rfl) h
noncomputable def j2y (l:qL) (k0:Bool->Res):Res:=
 bif decide ((nI (List.length l))<=8) then
  j1J l () λ(r:Bool)=>
   k0 (!r)
 else
  k0 false
noncomputable def j6b:Sig Unit:=⟨[.look y9 false],[false],λvals ext k=>av vals y9 λl vals=>nl vals<|nl ext<|j2y l (λ(r0:Bool)=>k [wB r0] [] [])⟩
theorem jb1:Z1p Try.prog 199 j6b:=j04 (np:=0) follows j01 (Z8K j6C Z94) [] oN false Try.func199 λ_ _ k _ h=>aV h λ_ _ _ _ _ h=>nL h λ_ h=>nL h λ_ h=>by subst_vars;exact .trans (by kernel_rfl) h
theorem j8T:Fns Try.prog [(109,j3V),(127,j0E),(199,j6b)]:=(Z8K j9o (Z8K j0M (Z8K jb1 Z94)))
noncomputable def j16 (t6:List (qS×qL×qL)) (t7:Int) (t8:Int) (rec:Int->Res) (k0:Unit->Res) (k1:Unit->Res):Res:=
 bif decide (t8<t7) then
  bif inb t8 (List.length t6) then
   j24 (nth ((0,eS,[],[],0,eS,[],[],eS,eS),[],[]) t6 t8).1 λ(r:Bool)=>
    bif !r then
     k1 ()
    else
     j2y (nth ((0,eS,[],[],0,eS,[],[],eS,eS),[],[]) t6 t8).2.1 λ(r1:Bool)=>
      bif !r1 then
       k1 ()
      else
       j2y (nth ((0,eS,[],[],0,eS,[],[],eS,eS),[],[]) t6 t8).2.2 λ(r2:Bool)=>
        bif !r2 then
         k1 ()
        else
         rec (Z8o (t8+1))
  else none
 else
  k0 ()
noncomputable def j37 (t6:List (qS×qL×qL)) (t7:Int):Int->(Int->Res)->((Unit->Res)×(Unit->Res))->Res:=λv rec q=>j16 t6 t7 v (λt8=>rec (t8)) q.1 q.2
noncomputable def j47 (t6:List (qS×qL×qL)) (t7:Int) (n:Nat) (t8:Int) (k0:Unit->Res) (k1:Unit->Res):Res:=Z14 (j37 t6 t7) n (t8) (k0,k1)
noncomputable def j5L:Z1q Unit:=λσ k=>rdN σ 46<|rdT σ 1 (pB 1)<|rd1 σ 6 y28 .S λt6=>rdI σ 7 λt7=>rdI σ 8 λt8=>rdB σ 1 y30 [.S] λa b=>j47 t6 t7 Z12 t8 (λ(_:Unit)=>k (.exit 0) (mkS 46 46 [(1,pB 1)] [(1,⟨y30,a,b,[.S]⟩)])) (λ(_:Unit)=>k .ret (mkS 46 46 [(2,vB false)] []))
theorem jay {W0:Base} {M:Nat->Prop} (hnp:W0.np<=0):Z22 Try.prog W0 M (cAt 26 (bo Try.f164)) j5L:=j0b follows j01 j8T hnp [] oN [1,6,7,8] [1] ([],[]) [(0,[1],[1])] ([2],[]) λσ k _ h=>rN h λhn h=>rT h λh1 h=>rV h λt6 h6 h=>rV h λt7 h7 h=>rV h λt8 h8 h=>rB h λa b hb1 h=>⟨_,Z9m (m:=46) hn (sC h1 (sC h6 (sC h7 (sC h8 sN)))) (bC hb1 bN),.trans (Z88 (λv:Int=>(mkS 46 46 [(1,pB 1),(6,v1 y28 t6 .S),(7,vI t7),(8,vI v)] [(1,⟨y30,a,b,[.S]⟩)])) (j37 t6 t7) (λ(k:Z6O Unit)=>(((λ(_:Unit)=>k (.exit 0) (mkS 46 46 [(1,pB 1)] [(1,⟨y30,a,b,[.S]⟩)])),(λ(_:Unit)=>k .ret (mkS 46 46 [(2,vB false)] []))):(Unit->Res)×(Unit->Res))) (λv rec k=>by delta j37 j16 j3V j6b;refine gz j24 λ_ e=> ?_;rewrite [<-e];refine gz j2y λ_ e=> ?_;rewrite [<-e];kernel_rfl) Z12 (t8) k) h⟩
noncomputable def j3g (b:Int×Int×List (qS×qL×qL)) (k0:Bool->Res):Res:=
 j47 b.2.2 (nI (List.length b.2.2)) Z12 0
  (λ(_:Unit)=>
   j0a b.1 1 400 λ(r:Bool)=>
    bif r then
     j0a b.2.1 0 (Z8o (b.1-1)) λ(r1:Bool)=>
      bif r1 then
       k0 (decide ((nI (List.length b.2.2))<=60))
      else
       k0 false
    else
     k0 false)
  (λ(_:Unit)=>
   k0 false)
noncomputable def j6O:Sig Unit:=⟨[.look y30 true],[false],λvals ext k=>av vals y30 λb vals=>nl vals<|nl ext<|j3g b (λ(r0:Bool)=>k [wB r0] [] [])⟩
theorem jbI:Z1p Try.prog 164 j6O:=j04 (np:=0) follows j01 j8T [j5L] (oI 26 0 (jay) oN) false Try.func164 λ_ _ k _ h=>aV h λ_ _ _ _ _ h=>nL h λ_ h=>nL h λ_ h=>by subst_vars;exact .trans (by delta j3g j5L j0E;refine gz j47 λ_ e=> ?_;rewrite [<-e];refine gz j0a λ_ e=> ?_;rewrite [<-e];kernel_rfl) h
theorem j9i:Fns Try.prog [(52,j2f),(112,j0O),(115,j4q),(164,j6O),(165,j9a)]:=(Z8K j7P (Z8K j4D (Z8K j9E (Z8K jbI (Z8K jdM Z94)))))
noncomputable def j1n (t26:List (qS×qL×qL)) (t27:Int) (out:List Int) (t28:Int) (rec:(List Int)->Int->Res) (k0:(List Int)->Res):Res:=
 bif decide (t28<t27) then
  bif inb t28 (List.length t26) then
   j0m (nth ((0,eS,[],[],0,eS,[],[],eS,eS),[],[]) t26 t28).1 λ(r:List Int) (r1:Bool)=>
    j0d out (nI (List.length r)) 2 λ(r2:List Int)=>
     bif lim ((List.length r2)+(List.length r)) then
      j13 (r2++r) (nth ((0,eS,[],[],0,eS,[],[],eS,eS),[],[]) t26 t28).2.1 λ(r3:List Int)=>
       j13 r3 (nth ((0,eS,[],[],0,eS,[],[],eS,eS),[],[]) t26 t28).2.2 λ(r4:List Int)=>
        rec r4 (Z8o (t28+1))
     else none
  else none
 else
  k0 out
noncomputable def j3z (t26:List (qS×qL×qL)) (t27:Int):((List Int)×Int)->((List Int)×Int->Res)->(((List Int)->Res))->Res:=λv rec q=>j1n t26 t27 v.1 v.2 (λout t28=>rec (out,t28)) q
noncomputable def j4I (t26:List (qS×qL×qL)) (t27:Int) (n:Nat) (out:List Int) (t28:Int) (k0:(List Int)->Res):Res:=Z14 (j3z t26 t27) n (out,t28) (k0)
noncomputable def j6q:Z1q Unit:=λσ k=>rdN σ 57<|rdT σ 2 (pB 2)<|rd1 σ 4 y0 .O λout=>rd1 σ 26 y28 .S λt26=>rdI σ 27 λt27=>rdI σ 28 λt28=>rdB σ 2 y0 [.O] λa t2=>j4I t26 t27 Z12 out t28 (λ(out1:List Int)=>k (.exit 0) (mkS 57 57 [(2,pB 2),(4,v1 y0 out1 .O)] [(2,⟨y0,a,t2,[.O]⟩)]))
theorem jbl {W0:Base} {M:Nat->Prop} (hnp:W0.np<=0):Z22 Try.prog W0 M (cAt 250 (bo Try.f125)) j6q:=j0b follows j01 j9i hnp [] oN [2,4,26,27,28] [2] ([],[]) [(0,[2,4],[2])] ([],[]) λσ k _ h=>rN h λhn h=>rT h λh2 h=>rV h λout h4 h=>rV h λt26 h26 h=>rV h λt27 h27 h=>rV h λt28 h28 h=>rB h λa t2 hb2 h=>⟨_,Z9m (m:=57) hn (sC h2 (sC h4 (sC h26 (sC h27 (sC h28 sN))))) (bC hb2 bN),.trans (Z88 (λv:(List Int)×Int=>(mkS 57 57 [(2,pB 2),(4,v1 y0 v.1 .O),(26,v1 y28 t26 .S),(27,vI t27),(28,vI v.2)] [(2,⟨y0,a,t2,[.O]⟩)])) (j3z t26 t27) (λ(k:Z6O Unit)=>(((λ(out1:List Int)=>k (.exit 0) (mkS 57 57 [(2,pB 2),(4,v1 y0 out1 .O)] [(2,⟨y0,a,t2,[.O]⟩)]))):((List Int)->Res))) (λv rec k=>by delta j3z j1n j2f j0O j4q;refine gz j0m λ_ e=> ?_;rewrite [<-e];refine gz j0d λ_ e=> ?_;rewrite [<-e];refine gz j13 λ_ e=> ?_;rewrite [<-e];kernel_rfl) Z12 (out,t28) k) h⟩
noncomputable def j0X (b:Int×Int×List (qS×qL×qL)) (k0:(List Int)->Bool->Res):Res:=
 j3g b λ(r:Bool)=>
  bif !r then
   k0 [] false
  else
   j0d [80] b.1 2 λ(r1:List Int)=>
    j0d r1 b.2.1 2 λ(r2:List Int)=>
     j0d r2 (nI (List.length b.2.2)) 1 λ(r3:List Int)=>
      j4I b.2.2 (nI (List.length b.2.2)) Z12 r3 0 λ(out:List Int)=>
       j5r out λ(r4:Int)=>
        j0d out r4 3 λ(r5:List Int)=>
         k0 r5 true
noncomputable def j7o:Sig Unit:=⟨[.borrow y30 true],[true,false],λvals ext k=>av vals y30 λb vals=>nl vals<|nl ext<|j0X b (λ(r0:List Int) (r1:Bool)=>k [⟨y0,true,r0,[.O]⟩,wB r1] [] [])⟩
theorem jcB:Z1p Try.prog 125 j7o:=j04 (np:=0) follows j01 j9i [j6q] (oI 250 0 (jbl) oN) false Try.func125 λ_ _ k _ h=>aV h λ_ _ _ _ _ h=>nL h λ_ h=>nL h λ_ h=>by subst_vars;exact .trans (by delta j0X j6O j0O j6q j9a;refine gz j3g λ_ e=> ?_;rewrite [<-e];refine gz j0d λ_ e=> ?_;rewrite [<-e];refine gz j4I λ_ e=> ?_;rewrite [<-e];refine gz j5r λ_ e=> ?_;rewrite [<-e];kernel_rfl) h
theorem j5T:Fns Try.prog [(10,j6a),(46,j0j),(49,j0u),(51,j1T),(108,j3E),(125,j7o)]:=(Z8K jb0 (Z8K j2G (Z8K j3x (Z8K j7v (Z8K j7R (Z8K jcB Z94))))))
noncomputable def j0S (t27:Int) (t28:Int) (b:Int×Int×List (qS×qL×qL)) (t16:List Int×Int×Bool) (rec:Int->(Int×Int×List (qS×qL×qL))->(List Int×Int×Bool)->Res) (k0:(Int×Int×List (qS×qL×qL))->(List Int×Int×Bool)->Res) (k1:Unit->Res):Res:=
 bif decide (t28<t27) then
  j05 2 t16 λ(r:Int) (bt16:List Int×Int×Bool)=>
   j0f r bt16 λ(r1:List Int) (bt161:List Int×Int×Bool)=>
    j0N r1 λ(r2:qS) (r3:Bool)=>
     bif !r3 then
      k1 ()
     else
      j0o bt161 λ(r4:qL) (bt162:List Int×Int×Bool)=>
       j0o bt162 λ(r5:qL) (bt163:List Int×Int×Bool)=>
        bif lim ((List.length b.2.2)+1) then
         rec (Z8o (t28+1)) (b.1,b.2.1,(b.2.2++[(r2,r4,r5)])) bt163
        else none
 else
  k0 b t16
noncomputable def j2K (t27:Int):(Int×(Int×Int×List (qS×qL×qL))×(List Int×Int×Bool))->(Int×(Int×Int×List (qS×qL×qL))×(List Int×Int×Bool)->Res)->(((Int×Int×List (qS×qL×qL))->(List Int×Int×Bool)->Res)×(Unit->Res))->Res:=λv rec q=>j0S t27 v.1 v.2.1 v.2.2 (λt28 b t16=>rec (t28,b,t16)) q.1 q.2
noncomputable def j5q (t27:Int) (n:Nat) (t28:Int) (b:Int×Int×List (qS×qL×qL)) (t16:List Int×Int×Bool) (k0:(Int×Int×List (qS×qL×qL))->(List Int×Int×Bool)->Res) (k1:Unit->Res):Res:=Z14 (j2K t27) n (t28,b,t16) (k0,k1)
noncomputable def j3c:Z1q Unit:=λσ k=>rdN σ 81<|rdT σ 1 (pB 1)<|rdT σ 2 (pB 2)<|rdT σ 4 (pB 16)<|rdT σ 5 (pB 5)<|rdI σ 27 λt27=>rdI σ 28 λt28=>rdB σ 1 y0 [.S] λa p=>rdB σ 2 y30 [.O] λa1 t2=>rdB σ 5 y30 [.O] λa2 b=>rdB σ 16 y25 [.S] λa3 t16=>j5q t27 Z12 t28 b t16 (λ(b1:Int×Int×List (qS×qL×qL)) (t161:List Int×Int×Bool)=>k (.exit 0) (mkS 81 81 [(1,pB 1),(2,pB 2),(4,pB 16),(5,pB 5)] [(1,⟨y0,a,p,[.S]⟩),(2,⟨y30,a1,t2,[.O]⟩),(5,⟨y30,a2,b1,[.O]⟩),(16,⟨y25,a3,t161,[.S]⟩)])) (λ(_:Unit)=>k .ret (mkS 81 81 [(2,pB 2),(3,vB false)] [(2,⟨y30,a1,(0,0,[]),[.O]⟩)]))
theorem ja3 {W0:Base} {M:Nat->Prop} (hnp:W0.np<=0):Z22 Try.prog W0 M (cAt 1018 (bo Try.f67)) j3c:=j0b follows j01 j5T hnp [] oN [1,2,4,5,27,28] [1,2,5,16] ([],[]) [(0,[1,2,4,5],[1,2,5,16])] ([2,3],[2]) λσ k _ h=>rN h λhn h=>rT h λh1 h=>rT h λh2 h=>rT h λh4 h=>rT h λh5 h=>rV h λt27 h27 h=>rV h λt28 h28 h=>rB h λa p hb1 h=>rB h λa1 t2 hb2 h=>rB h λa2 b hb5 h=>rB h λa3 t16 hb16 h=>⟨_,Z9m (m:=81) hn (sC h1 (sC h2 (sC h4 (sC h5 (sC h27 (sC h28 sN)))))) (bC hb1 (bC hb2 (bC hb5 (bC hb16 bN)))),.trans (Z88 (λv:Int×(Int×Int×List (qS×qL×qL))×(List Int×Int×Bool)=>(mkS 81 81 [(1,pB 1),(2,pB 2),(4,pB 16),(5,pB 5),(27,vI t27),(28,vI v.1)] [(1,⟨y0,a,p,[.S]⟩),(2,⟨y30,a1,t2,[.O]⟩),(5,⟨y30,a2,v.2.1,[.O]⟩),(16,⟨y25,a3,v.2.2,[.S]⟩)])) (j2K t27) (λ(k:Z6O Unit)=>(((λ(b1:Int×Int×List (qS×qL×qL)) (t161:List Int×Int×Bool)=>k (.exit 0) (mkS 81 81 [(1,pB 1),(2,pB 2),(4,pB 16),(5,pB 5)] [(1,⟨y0,a,p,[.S]⟩),(2,⟨y30,a1,t2,[.O]⟩),(5,⟨y30,a2,b1,[.O]⟩),(16,⟨y25,a3,t161,[.S]⟩)])),(λ(_:Unit)=>k .ret (mkS 81 81 [(2,pB 2),(3,vB false)] [(2,⟨y30,a1,(0,0,[]),[.O]⟩)]))):((Int×Int×List (qS×qL×qL))->(List Int×Int×Bool)->Res)×(Unit->Res))) (λv rec k=>by delta j2K j0S j0j j3E j6a j1T;refine gz j05 λ_ e=> ?_;rewrite [<-e];refine gz j0f λ_ e=> ?_;rewrite [<-e];refine gz j0N λ_ e=> ?_;rewrite [<-e];refine gz j0o λ_ e=> ?_;rewrite [<-e];kernel_rfl) Z12 (t28,b,t16) k) h⟩
noncomputable def j1o (ok:Bool) (p:List Int) (back:List Int) (t16:List Int×Int×Bool) (k0:Bool->Res):Res:=
 bif t16.2.2 then
  k0 true
 else
  bif !ok then
   k0 true
  else
   k0 (sNe (Z34 back) (Z34 p))
noncomputable def j57:Z1q Unit:=λσ k=>rdN σ 81<|rdT σ 1 (pB 1)<|rdT σ 2 (pB 2)<|rdT σ 4 (pB 16)<|rdT σ 5 (pB 5)<|rdT σ 11 (pB 11)<|rdO σ 12 λok=>rdB σ 1 y0 [.S] λa p=>rdB σ 2 y30 [.O] λa1 t2=>rdB σ 5 y30 [.O] λa2 b=>rdB σ 11 y0 [.O] λa3 back=>rdB σ 16 y25 [.S] λa4 t16=>j1o ok p back t16 (λ(t78:Bool)=>k .normal (mkS 81 81 [(2,pB 2),(5,pB 5),(78,vB t78)] [(2,⟨y30,a1,t2,[.O]⟩),(5,⟨y30,a2,b,[.O]⟩)]))
theorem ja4 {W0:Base} {M:Nat->Prop} (hnp:W0.np<=0):Z22 Try.prog W0 M (cAt 2044 (bo Try.f67)) j57:=j2s follows j01 j5T hnp [j3c] oN ([2,5,78],[2,5]) [] ([],[]) λσ k _ h=>rN h λhn h=>rT h λh1 h=>rT h λh2 h=>rT h λh4 h=>rT h λh5 h=>rT h λh11 h=>rV h λok h12 h=>rB h λa p hb1 h=>rB h λa1 t2 hb2 h=>rB h λa2 b hb5 h=>rB h λa3 back hb11 h=>rB h λa4 t16 hb16 h=>⟨_,Z9m (m:=81) hn (sC h1 (sC h2 (sC h4 (sC h5 (sC h11 (sC h12 sN)))))) (bC hb1 (bC hb2 (bC hb5 (bC hb11 (bC hb16 bN))))),.trans (by kernel_rfl) h⟩
noncomputable def j1d (p:List Int) (k0:(Int×Int×List (qS×qL×qL))->Bool->Res):Res:=
 j05 1 (p,0,false) λ(r:Int) (bt16:List Int×Int×Bool)=>
  j05 2 bt16 λ(r1:Int) (bt161:List Int×Int×Bool)=>
   j05 2 bt161 λ(r2:Int) (bt162:List Int×Int×Bool)=>
    j06 60 bt162 λ(r3:Int) (bt163:List Int×Int×Bool)=>
     j5q r3 Z12 0 (r1,r2,[]) bt163
      (λ(b:Int×Int×List (qS×qL×qL)) (t:List Int×Int×Bool)=>
       j0X b λ(r4:List Int) (r5:Bool)=>
        j1o r5 p r4 t λ(t1:Bool)=>
         bif t1 then
          k0 (0,0,[]) false
         else
          k0 b true)
      (λ(_:Unit)=>
       k0 (0,0,[]) false)
noncomputable def j8w:Sig Unit:=⟨[.borrow y0 true],[true,false],λvals ext k=>av vals y0 λp vals=>nl vals<|nl ext<|j1d p (λ(r0:Int×Int×List (qS×qL×qL)) (r1:Bool)=>k [⟨y30,true,r0,[.O]⟩,wB r1] [] [])⟩
theorem jaZ:Z1p Try.prog 67 j8w:=j04 (np:=0) follows j01 j5T [j3c,j57] (oI 1018 0 (ja3) (oI 2044 1 (ja4) oN)) false Try.func67 λ_ _ k _ h=>aV h λ_ _ _ _ _ h=>nL h λ_ h=>nL h λ_ h=>by subst_vars;exact .trans (by delta j1d j0j j0u j3c j7o j57;refine gz j05 λ_ e=> ?_;rewrite [<-e];refine gz j06 λ_ e=> ?_;rewrite [<-e];refine gz j5q λ_ e=> ?_;rewrite [<-e];refine gz j0X λ_ e=> ?_;rewrite [<-e];refine gz j1o λ_ e=> ?_;rewrite [<-e];kernel_rfl) h
end Go.PI.G
namespace Go.PI.G
open Go Go.PI Go.Proofs
open Go.Code (pl pr)
noncomputable def j7J (n_:List (List Int)) (k0:Bool->Res):Res:=
 k0 (decide ((nI (List.length n_))<=30))
noncomputable def j89:Sig Unit:=⟨[.look y19 true],[false],λvals ext k=>av vals y19 λn_ vals=>nl vals<|nl ext<|j7J n_ (λ(r0:Bool)=>k [wB r0] [] [])⟩
theorem jd5:Z1p Try.prog 63 j89:=j04 (np:=0) follows j01 Z94 [] oN false Try.func63 λ_ _ k _ h=>aV h λ_ _ _ _ _ h=>nL h λ_ h=>nL h λ_ h=>by subst_vars;exact .trans (by kernel_rfl) h
theorem j8l:Fns Try.prog [(63,j89),(64,j8x)]:=(Z8K jd5 (Z8K jb6 Z94))
noncomputable def j1z (t14:List (List Int)) (t15:Int) (out:List Int) (t16:Int) (rec:(List Int)->Int->Res) (k0:(List Int)->Res):Res:=
 bif decide (t16<t15) then
  bif inb t16 (List.length t14) then
   j2C (nth [] t14 t16) λ(r:Int×Int×List (qS×qL×qL)) (r1:Bool)=>
    bif lim ((List.length out)+1) then
     rec (out++[r.1]) (Z8o (t16+1))
    else none
  else none
 else
  k0 out
noncomputable def j4t (t14:List (List Int)) (t15:Int):((List Int)×Int)->((List Int)×Int->Res)->(((List Int)->Res))->Res:=λv rec q=>j1z t14 t15 v.1 v.2 (λout t16=>rec (out,t16)) q
noncomputable def j3H (t14:List (List Int)) (t15:Int) (n:Nat) (out:List Int) (t16:Int) (k0:(List Int)->Res):Res:=Z14 (j4t t14 t15) n (out,t16) (k0)
noncomputable def j5a:Z1q Unit:=λσ k=>rdN σ 32<|rd1 σ 3 y20 .O λout=>rd1 σ 14 y19 .S λt14=>rdI σ 15 λt15=>rdI σ 16 λt16=>j3H t14 t15 Z12 out t16 (λ(out1:List Int)=>k (.exit 0) (mkS 32 32 [(3,v1 y20 out1 .O)] []))
theorem jac {W0:Base} {M:Nat->Prop} (hnp:W0.np<=0):Z22 Try.prog W0 M (cAt 122 (bo Try.f17)) j5a:=j0b follows j01 j8l hnp [] oN [3,14,15,16] [] ([],[]) [(0,[3],[])] ([],[]) λσ k _ h=>rN h λhn h=>rV h λout h3 h=>rV h λt14 h14 h=>rV h λt15 h15 h=>rV h λt16 h16 h=>⟨_,Z9m (m:=32) hn (sC h3 (sC h14 (sC h15 (sC h16 sN)))) bN,.trans (Z88 (λv:(List Int)×Int=>(mkS 32 32 [(3,v1 y20 v.1 .O),(14,v1 y19 t14 .S),(15,vI t15),(16,vI v.2)] [])) (j4t t14 t15) (λ(k:Z6O Unit)=>(((λ(out1:List Int)=>k (.exit 0) (mkS 32 32 [(3,v1 y20 out1 .O)] []))):((List Int)->Res))) (λv rec k=>by kernel_rfl) Z12 (out,t16) k) h⟩
noncomputable def j2B (n_:List (List Int)) (k0:(List Int)->Res):Res:=
 j7J n_ λ(r:Bool)=>
  bif !r then
   k0 []
  else
   j3H n_ (nI (List.length n_)) Z12 [] 0 λ(out:List Int)=>
    k0 out
noncomputable def j6f:Sig Unit:=⟨[.borrow y19 true],[false],λvals ext k=>av vals y19 λn_ vals=>nl vals<|nl ext<|j2B n_ (λ(r0:List Int)=>k [w1 y20 r0 .O] [] [])⟩
theorem jb5:Z1p Try.prog 17 j6f:=j04 (np:=0) follows j01 j8l [j5a] (oI 122 0 (jac) oN) false Try.func17 λ_ _ k _ h=>aV h λ_ _ _ _ _ h=>nL h λ_ h=>nL h λ_ h=>by subst_vars;exact .trans (by delta j2B j89 j5a;refine gz j7J λ_ e=> ?_;rewrite [<-e];refine gz j3H λ_ e=> ?_;rewrite [<-e];kernel_rfl) h
noncomputable def j7G (n_:List (List Int)) (k0:Bool->Res):Res:=
 k0 (decide ((nI (List.length n_))<=30))
noncomputable def j84:Sig Unit:=⟨[.look y19 true],[false],λvals ext k=>av vals y19 λn_ vals=>nl vals<|nl ext<|j7G n_ (λ(r0:Bool)=>k [wB r0] [] [])⟩
theorem jcZ:Z1p Try.prog 66 j84:=j04 (np:=0) follows j01 Z94 [] oN false Try.func66 λ_ _ k _ h=>aV h λ_ _ _ _ _ h=>nL h λ_ h=>nL h λ_ h=>by subst_vars;exact .trans (by kernel_rfl) h
theorem j8j:Fns Try.prog [(66,j84),(67,j8w)]:=(Z8K jcZ (Z8K jaZ Z94))
noncomputable def j1v (t14:List (List Int)) (t15:Int) (out:List Int) (t16:Int) (rec:(List Int)->Int->Res) (k0:(List Int)->Res):Res:=
 bif decide (t16<t15) then
  bif inb t16 (List.length t14) then
   j1d (nth [] t14 t16) λ(r:Int×Int×List (qS×qL×qL)) (r1:Bool)=>
    bif lim ((List.length out)+1) then
     rec (out++[r.1]) (Z8o (t16+1))
    else none
  else none
 else
  k0 out
noncomputable def j4k (t14:List (List Int)) (t15:Int):((List Int)×Int)->((List Int)×Int->Res)->(((List Int)->Res))->Res:=λv rec q=>j1v t14 t15 v.1 v.2 (λout t16=>rec (out,t16)) q
noncomputable def j3y (t14:List (List Int)) (t15:Int) (n:Nat) (out:List Int) (t16:Int) (k0:(List Int)->Res):Res:=Z14 (j4k t14 t15) n (out,t16) (k0)
noncomputable def j56:Z1q Unit:=λσ k=>rdN σ 32<|rd1 σ 3 y20 .O λout=>rd1 σ 14 y19 .S λt14=>rdI σ 15 λt15=>rdI σ 16 λt16=>j3y t14 t15 Z12 out t16 (λ(out1:List Int)=>k (.exit 0) (mkS 32 32 [(3,v1 y20 out1 .O)] []))
theorem ja2 {W0:Base} {M:Nat->Prop} (hnp:W0.np<=0):Z22 Try.prog W0 M (cAt 122 (bo Try.f19)) j56:=j0b follows j01 j8j hnp [] oN [3,14,15,16] [] ([],[]) [(0,[3],[])] ([],[]) λσ k _ h=>rN h λhn h=>rV h λout h3 h=>rV h λt14 h14 h=>rV h λt15 h15 h=>rV h λt16 h16 h=>⟨_,Z9m (m:=32) hn (sC h3 (sC h14 (sC h15 (sC h16 sN)))) bN,.trans (Z88 (λv:(List Int)×Int=>(mkS 32 32 [(3,v1 y20 v.1 .O),(14,v1 y19 t14 .S),(15,vI t15),(16,vI v.2)] [])) (j4k t14 t15) (λ(k:Z6O Unit)=>(((λ(out1:List Int)=>k (.exit 0) (mkS 32 32 [(3,v1 y20 out1 .O)] []))):((List Int)->Res))) (λv rec k=>by kernel_rfl) Z12 (out,t16) k) h⟩
noncomputable def j1c (n_:List (List Int)) (k0:(List Int)->Res):Res:=
 j7G n_ λ(r:Bool)=>
  bif !r then
   k0 []
  else
   j3y n_ (nI (List.length n_)) Z12 [] 0 λ(out:List Int)=>
    k0 out
noncomputable def j4a:Sig Unit:=⟨[.borrow y19 true],[false],λvals ext k=>av vals y19 λn_ vals=>nl vals<|nl ext<|j1c n_ (λ(r0:List Int)=>k [w1 y20 r0 .O] [] [])⟩
theorem jaY:Z1p Try.prog 19 j4a:=j04 (np:=0) follows j01 j8j [j56] (oI 122 0 (ja2) oN) false Try.func19 λ_ _ k _ h=>aV h λ_ _ _ _ _ h=>nL h λ_ h=>nL h λ_ h=>by subst_vars;exact .trans (by delta j1c j84 j56;refine gz j7G λ_ e=> ?_;rewrite [<-e];refine gz j3y λ_ e=> ?_;rewrite [<-e];kernel_rfl) h
end Go.PI.G
namespace Go.PI.G
open Go Go.PI Go.Proofs
open Go.Code (pl pr)
noncomputable def j2e (a:List Int) (b:List Int) (i:Int) (rec:Int->Res) (k0:Unit->Res) (k1:Unit->Res):Res:=
 bif decide (i<(nI (List.length a))) then
  bif inb i (List.length a) then
   bif inb i (List.length b) then
    bif ((nth 0 a i) != (nth 0 b i)) then
     k1 ()
    else
     rec (Z8o (i+1))
   else none
  else none
 else
  k0 ()
noncomputable def j7U (a:List Int) (b:List Int):Int->(Int->Res)->((Unit->Res)×(Unit->Res))->Res:=λv rec q=>j2e a b v (λi=>rec (i)) q.1 q.2
noncomputable def j6J (a:List Int) (b:List Int) (n:Nat) (i:Int) (k0:Unit->Res) (k1:Unit->Res):Res:=Z14 (j7U a b) n (i) (k0,k1)
noncomputable def j8A:Z1q Unit:=λσ k=>rdN σ 26<|rd1 σ 0 y20 .S λa=>rd1 σ 1 y20 .S λb=>rdI σ 5 λi=>j6J a b Z12 i (λ(_:Unit)=>k (.exit 0) (mkS 26 26 [] [])) (λ(_:Unit)=>k .ret (mkS 26 26 [(4,vB false)] []))
theorem jbp {W0:Base} {M:Nat->Prop} (hnp:W0.np<=0):Z22 Try.prog W0 M (cAt 58 (bo Try.f20)) j8A:=j0b follows j01 Z94 hnp [] oN [0,1,5] [] ([],[]) [(0,[],[])] ([4],[]) λσ k _ h=>rN h λhn h=>rV h λa h0 h=>rV h λb h1 h=>rV h λi h5 h=>⟨_,Z9m (m:=26) hn (sC h0 (sC h1 (sC h5 sN))) bN,.trans (Z88 (λv:Int=>(mkS 26 26 [(0,v1 y20 a .S),(1,v1 y20 b .S),(5,vI v)] [])) (j7U a b) (λ(k:Z6O Unit)=>(((λ(_:Unit)=>k (.exit 0) (mkS 26 26 [] [])),(λ(_:Unit)=>k .ret (mkS 26 26 [(4,vB false)] []))):(Unit->Res)×(Unit->Res))) (λv rec k=>by kernel_rfl) Z12 (i) k) h⟩
noncomputable def j25 (a:List Int) (b:List Int) (k0:Bool->Res):Res:=
 bif ((nI (List.length a)) != (nI (List.length b))) then
  k0 false
 else
  j6J a b Z12 0
   (λ(_:Unit)=>
    k0 true)
   (λ(_:Unit)=>
    k0 false)
noncomputable def j5l:Sig Unit:=⟨[.look y20 false,.look y20 false],[false],λvals ext k=>av vals y20 λa vals=>av vals y20 λb vals=>nl vals<|nl ext<|j25 a b (λ(r0:Bool)=>k [wB r0] [] [])⟩
theorem jcC:Z1p Try.prog 20 j5l:=j04 (np:=0) follows j01 Z94 [j8A] (oI 58 0 (jbp) oN) false Try.func20 λ_ _ k _ h=>aV h λ_ _ _ _ _ h=>aV h λ_ _ _ _ _ h=>nL h λ_ h=>nL h λ_ h=>by subst_vars;exact .trans (by kernel_rfl) h
noncomputable def j1y (a:List Int) (k_:Int) (i:Int) (rec:(List Int)->Int->Int->Res) (k0:(List Int)->Int->Res):Res:=
 bif decide (i<(nI (List.length a))) then
  bif inb i (List.length a) then
   rec (upd a i k_) (Z8o (k_+1)) (Z8o (i+1))
  else none
 else
  k0 a k_
noncomputable def j4o:((List Int)×Int×Int)->((List Int)×Int×Int->Res)->(((List Int)->Int->Res))->Res:=λv rec q=>j1y v.1 v.2.1 v.2.2 (λa k_ i=>rec (a,k_,i)) q
noncomputable def j5v (n:Nat) (a:List Int) (k_:Int) (i:Int) (k0:(List Int)->Int->Res):Res:=Z14 (j4o) n (a,k_,i) (k0)
noncomputable def j7B:Z1q Unit:=λσ k=>rdN σ 19<|rd1 σ 0 y20 .O λa=>rdI σ 1 λk_=>rdI σ 5 λi=>j5v Z12 a k_ i (λ(a1:List Int) (k_1:Int)=>k (.exit 0) (mkS 19 19 [(0,v1 y20 a1 .O),(1,vI k_1)] []))
theorem jab {W0:Base} {M:Nat->Prop} (hnp:W0.np<=1):Z22 Try.prog W0 M (cAt 26 (bo Try.f23)) j7B:=j0b follows j01 Z94 hnp [] oN [0,1,5] [] ([],[]) [(0,[0,1],[])] ([],[]) λσ k _ h=>rN h λhn h=>rV h λa h0 h=>rV h λk_ h1 h=>rV h λi h5 h=>⟨_,Z9m (m:=19) hn (sC h0 (sC h1 (sC h5 sN))) bN,.trans (Z88 (λv:(List Int)×Int×Int=>(mkS 19 19 [(0,v1 y20 v.1 .O),(1,vI v.2.1),(5,vI v.2.2)] [])) (j4o) (λ(k:Z6O Unit)=>(((λ(a1:List Int) (k_1:Int)=>k (.exit 0) (mkS 19 19 [(0,v1 y20 a1 .O),(1,vI k_1)] []))):((List Int)->Int->Res))) (λv rec k=>by kernel_rfl) Z12 (a,k_,i) k) h⟩
noncomputable def j3U (a:List Int) (k_:Int) (k0:Int->(List Int)->Res):Res:=
 j5v Z12 a k_ 0 λ(a1:List Int) (k_1:Int)=>
  k0 k_1 a1
noncomputable def j6d:Sig Unit:=⟨[.inout y20 false,.borrow tI false],[false],λvals ext k=>ao vals y20 [.O] λa vals=>av vals tI λk_ vals=>nl vals<|nl ext<|j3U a k_ (λ(r0:Int) (i0:List Int)=>k [wI r0] [w1 y20 i0 .O] [])⟩
theorem jb4:Z1p Try.prog 23 j6d:=j04 (np:=1) follows j01 Z94 [j7B] (oI 26 0 (jab) oN) false Try.func23 λ_ _ k _ h=>aO h λ_ _ _ _ h=>aV h λ_ _ _ _ _ h=>nL h λ_ h=>nL h λ_ h=>by subst_vars;exact .trans (by kernel_rfl) h
noncomputable def j1x (a:List Int) (k_:Int) (i:Int) (rec:Int->Int->Res) (k0:Int->Res) (k1:Unit->Res):Res:=
 bif decide (i<(nI (List.length a))) then
  bif inb i (List.length a) then
   bif ((nth 0 a i) != k_) then
    k1 ()
   else
    rec (Z8o (k_+1)) (Z8o (i+1))
  else none
 else
  k0 k_
noncomputable def j4n (a:List Int):(Int×Int)->(Int×Int->Res)->((Int->Res)×(Unit->Res))->Res:=λv rec q=>j1x a v.1 v.2 (λk_ i=>rec (k_,i)) q.1 q.2
noncomputable def j5u (a:List Int) (n:Nat) (k_:Int) (i:Int) (k0:Int->Res) (k1:Unit->Res):Res:=Z14 (j4n a) n (k_,i) (k0,k1)
noncomputable def j7A:Z1q Unit:=λσ k=>rdN σ 21<|rd1 σ 0 y20 .S λa=>rdI σ 1 λk_=>rdI σ 5 λi=>j5u a Z12 k_ i (λ(k_1:Int)=>k (.exit 0) (mkS 21 21 [(1,vI k_1)] [])) (λ(_:Unit)=>k .ret (mkS 21 21 [(4,vI (-1))] []))
theorem jaa {W0:Base} {M:Nat->Prop} (hnp:W0.np<=0):Z22 Try.prog W0 M (cAt 26 (bo Try.f24)) j7A:=j0b follows j01 Z94 hnp [] oN [0,1,5] [] ([],[]) [(0,[1],[])] ([4],[]) λσ k _ h=>rN h λhn h=>rV h λa h0 h=>rV h λk_ h1 h=>rV h λi h5 h=>⟨_,Z9m (m:=21) hn (sC h0 (sC h1 (sC h5 sN))) bN,.trans (Z88 (λv:Int×Int=>(mkS 21 21 [(0,v1 y20 a .S),(1,vI v.1),(5,vI v.2)] [])) (j4n a) (λ(k:Z6O Unit)=>(((λ(k_1:Int)=>k (.exit 0) (mkS 21 21 [(1,vI k_1)] [])),(λ(_:Unit)=>k .ret (mkS 21 21 [(4,vI (-1))] []))):(Int->Res)×(Unit->Res))) (λv rec k=>by kernel_rfl) Z12 (k_,i) k) h⟩
noncomputable def j2z (a:List Int) (k_:Int) (k0:Int->Res):Res:=
 j5u a Z12 k_ 0
  (λ(k_1:Int)=>
   k0 k_1)
  (λ(_:Unit)=>
   k0 (-1))
noncomputable def j6c:Sig Unit:=⟨[.look y20 false,.look tI false],[false],λvals ext k=>av vals y20 λa vals=>av vals tI λk_ vals=>nl vals<|nl ext<|j2z a k_ (λ(r0:Int)=>k [wI r0] [] [])⟩
theorem jb3:Z1p Try.prog 24 j6c:=j04 (np:=0) follows j01 Z94 [j7A] (oI 26 0 (jaa) oN) false Try.func24 λ_ _ k _ h=>aV h λ_ _ _ _ _ h=>aV h λ_ _ _ _ _ h=>nL h λ_ h=>nL h λ_ h=>by subst_vars;exact .trans (by kernel_rfl) h
end Go.PI.G
namespace Go.PI.G
open Go Go.PI Go.Proofs
open Go.Code (pl pr)
noncomputable def j63 (a:List Int) (left:Int) (k0:Int->Res):Res:=
 bif decide ((Z8o (left-(nI (List.length a))))<0) then
  k0 (-1)
 else
  k0 (Z8o (left-(nI (List.length a))))
noncomputable def jc8:Sig Unit:=⟨[.look y0 false,.look tI false],[false],λvals ext k=>av vals y0 λa vals=>av vals tI λleft vals=>nl vals<|nl ext<|j63 a left (λ(r0:Int)=>k [wI r0] [] [])⟩
theorem jbO:Z1p Try.prog 159 jc8:=j04 (np:=0) follows j01 Z94 [] oN false Try.func159 λ_ _ k _ h=>aV h λ_ _ _ _ _ h=>aV h λ_ _ _ _ _ h=>nL h λ_ h=>nL h λ_ h=>by subst_vars;exact .trans (by kernel_rfl) h
noncomputable def j1R (a:List Int) (out:List Int) (i:Int) (rec:(List Int)->Int->Res) (k0:(List Int)->Res):Res:=
 bif decide (i<(nI (List.length a))) then
  bif inb i (List.length a) then
   bif inb i (List.length out) then
    rec (upd out i (nth 0 a i)) (Z8o (i+1))
   else none
  else none
 else
  k0 out
noncomputable def j51 (a:List Int):((List Int)×Int)->((List Int)×Int->Res)->(((List Int)->Res))->Res:=λv rec q=>j1R a v.1 v.2 (λout i=>rec (out,i)) q
noncomputable def j8t (a:List Int) (n:Nat) (out:List Int) (i:Int) (k0:(List Int)->Res):Res:=Z14 (j51 a) n (out,i) (k0)
noncomputable def j8e:Z1q Unit:=λσ k=>rdN σ 22<|rd1 σ 0 y0 .S λa=>rd1 σ 3 y0 .O λout=>rdI σ 4 λi=>j8t a Z12 out i (λ(out1:List Int)=>k (.exit 0) (mkS 22 22 [(3,v1 y0 out1 .O)] []))
theorem jaE {W0:Base} {M:Nat->Prop} (hnp:W0.np<=0):Z22 Try.prog W0 M (cAt 58 (bo Try.f9)) j8e:=j0b follows j01 Z94 hnp [] oN [0,3,4] [] ([],[]) [(0,[3],[])] ([],[]) λσ k _ h=>rN h λhn h=>rV h λa h0 h=>rV h λout h3 h=>rV h λi h4 h=>⟨_,Z9m (m:=22) hn (sC h0 (sC h3 (sC h4 sN))) bN,.trans (Z88 (λv:(List Int)×Int=>(mkS 22 22 [(0,v1 y0 a .S),(3,v1 y0 v.1 .O),(4,vI v.2)] [])) (j51 a) (λ(k:Z6O Unit)=>(((λ(out1:List Int)=>k (.exit 0) (mkS 22 22 [(3,v1 y0 out1 .O)] []))):((List Int)->Res))) (λv rec k=>by kernel_rfl) Z12 (out,i) k) h⟩
noncomputable def j66 (a:List Int) (k0:(List Int)->Res):Res:=
 bif Z8m (nI (List.length a)) (nI (List.length a)) then
  j8t a Z12 (Z7Y (nI (List.length a)) 0) 0 λ(out:List Int)=>
   k0 out
 else none
noncomputable def jca:Sig Unit:=⟨[.borrow y0 false],[false],λvals ext k=>av vals y0 λa vals=>nl vals<|nl ext<|j66 a (λ(r0:List Int)=>k [w1 y0 r0 .O] [] [])⟩
theorem jbQ:Z1p Try.prog 9 jca:=j04 (np:=0) follows j01 Z94 [j8e] (oI 58 0 (jaE) oN) false Try.func9 λ_ _ k _ h=>aV h λ_ _ _ _ _ h=>nL h λ_ h=>nL h λ_ h=>by subst_vars;exact .trans (by kernel_rfl) h
noncomputable def j1O (a:List Int) (b:List Int) (i:Int) (rec:Int->Res) (k0:Unit->Res) (k1:Unit->Res):Res:=
 bif decide (i<(nI (List.length a))) then
  bif inb i (List.length a) then
   bif inb i (List.length b) then
    bif ((nth 0 a i) != (nth 0 b i)) then
     k1 ()
    else
     rec (Z8o (i+1))
   else none
  else none
 else
  k0 ()
noncomputable def j7w (a:List Int) (b:List Int):Int->(Int->Res)->((Unit->Res)×(Unit->Res))->Res:=λv rec q=>j1O a b v (λi=>rec (i)) q.1 q.2
noncomputable def j5Z (a:List Int) (b:List Int) (n:Nat) (i:Int) (k0:Unit->Res) (k1:Unit->Res):Res:=Z14 (j7w a b) n (i) (k0,k1)
noncomputable def j8b:Z1q Unit:=λσ k=>rdN σ 26<|rd1 σ 0 y0 .S λa=>rd1 σ 1 y0 .S λb=>rdI σ 5 λi=>j5Z a b Z12 i (λ(_:Unit)=>k (.exit 0) (mkS 26 26 [] [])) (λ(_:Unit)=>k .ret (mkS 26 26 [(4,vB false)] []))
theorem jaB {W0:Base} {M:Nat->Prop} (hnp:W0.np<=0):Z22 Try.prog W0 M (cAt 58 (bo Try.f12)) j8b:=j0b follows j01 Z94 hnp [] oN [0,1,5] [] ([],[]) [(0,[],[])] ([4],[]) λσ k _ h=>rN h λhn h=>rV h λa h0 h=>rV h λb h1 h=>rV h λi h5 h=>⟨_,Z9m (m:=26) hn (sC h0 (sC h1 (sC h5 sN))) bN,.trans (Z88 (λv:Int=>(mkS 26 26 [(0,v1 y0 a .S),(1,v1 y0 b .S),(5,vI v)] [])) (j7w a b) (λ(k:Z6O Unit)=>(((λ(_:Unit)=>k (.exit 0) (mkS 26 26 [] [])),(λ(_:Unit)=>k .ret (mkS 26 26 [(4,vB false)] []))):(Unit->Res)×(Unit->Res))) (λv rec k=>by kernel_rfl) Z12 (i) k) h⟩
noncomputable def j5Y (a:List Int) (b:List Int) (k0:Bool->Res):Res:=
 bif ((nI (List.length a)) != (nI (List.length b))) then
  k0 false
 else
  j5Z a b Z12 0
   (λ(_:Unit)=>
    k0 true)
   (λ(_:Unit)=>
    k0 false)
noncomputable def jc6:Sig Unit:=⟨[.look y0 false,.look y0 false],[false],λvals ext k=>av vals y0 λa vals=>av vals y0 λb vals=>nl vals<|nl ext<|j5Y a b (λ(r0:Bool)=>k [wB r0] [] [])⟩
theorem jbL:Z1p Try.prog 12 jc6:=j04 (np:=0) follows j01 Z94 [j8b] (oI 58 0 (jaB) oN) false Try.func12 λ_ _ k _ h=>aV h λ_ _ _ _ _ h=>aV h λ_ _ _ _ _ h=>nL h λ_ h=>nL h λ_ h=>by subst_vars;exact .trans (by kernel_rfl) h
noncomputable def j1i (a:List Int) (k_:Int) (i:Int) (rec:(List Int)->Int->Int->Res) (k0:(List Int)->Int->Res):Res:=
 bif decide (i<(nI (List.length a))) then
  bif inb i (List.length a) then
   rec (upd a i (wu8 k_)) (Z8o (k_+1)) (Z8o (i+1))
  else none
 else
  k0 a k_
noncomputable def j42:((List Int)×Int×Int)->((List Int)×Int×Int->Res)->(((List Int)->Int->Res))->Res:=λv rec q=>j1i v.1 v.2.1 v.2.2 (λa k_ i=>rec (a,k_,i)) q
noncomputable def j4Z (n:Nat) (a:List Int) (k_:Int) (i:Int) (k0:(List Int)->Int->Res):Res:=Z14 (j42) n (a,k_,i) (k0)
noncomputable def j7h:Z1q Unit:=λσ k=>rdN σ 20<|rd1 σ 0 y0 .O λa=>rdI σ 1 λk_=>rdI σ 5 λi=>j4Z Z12 a k_ i (λ(a1:List Int) (k_1:Int)=>k (.exit 0) (mkS 20 20 [(0,v1 y0 a1 .O),(1,vI k_1)] []))
theorem j9O {W0:Base} {M:Nat->Prop} (hnp:W0.np<=1):Z22 Try.prog W0 M (cAt 26 (bo Try.f13)) j7h:=j0b follows j01 Z94 hnp [] oN [0,1,5] [] ([],[]) [(0,[0,1],[])] ([],[]) λσ k _ h=>rN h λhn h=>rV h λa h0 h=>rV h λk_ h1 h=>rV h λi h5 h=>⟨_,Z9m (m:=20) hn (sC h0 (sC h1 (sC h5 sN))) bN,.trans (Z88 (λv:(List Int)×Int×Int=>(mkS 20 20 [(0,v1 y0 v.1 .O),(1,vI v.2.1),(5,vI v.2.2)] [])) (j42) (λ(k:Z6O Unit)=>(((λ(a1:List Int) (k_1:Int)=>k (.exit 0) (mkS 20 20 [(0,v1 y0 a1 .O),(1,vI k_1)] []))):((List Int)->Int->Res))) (λv rec k=>by kernel_rfl) Z12 (a,k_,i) k) h⟩
noncomputable def j4L (a:List Int) (k_:Int) (k0:Int->(List Int)->Res):Res:=
 j4Z Z12 a k_ 0 λ(a1:List Int) (k_1:Int)=>
  k0 k_1 a1
noncomputable def jaS:Sig Unit:=⟨[.inout y0 false,.borrow tI false],[false],λvals ext k=>ao vals y0 [.O] λa vals=>av vals tI λk_ vals=>nl vals<|nl ext<|j4L a k_ (λ(r0:Int) (i0:List Int)=>k [wI r0] [w1 y0 i0 .O] [])⟩
theorem j7S:Z1p Try.prog 13 jaS:=j04 (np:=1) follows j01 Z94 [j7h] (oI 26 0 (j9O) oN) false Try.func13 λ_ _ k _ h=>aO h λ_ _ _ _ h=>aV h λ_ _ _ _ _ h=>nL h λ_ h=>nL h λ_ h=>by subst_vars;exact .trans (by kernel_rfl) h
end Go.PI.G
namespace Go.PI.G
open Go Go.PI Go.Proofs
open Go.Code (pl pr)
noncomputable def j77 (a:List Int) (left:Int) (k0:Int->Res):Res:=
 j63 a left λ(r:Int)=>
  bif decide (r<0) then
   k0 (-1)
  else
   k0 r
noncomputable def jcO:Sig Unit:=⟨[.look y0 true,.look tI false],[false],λvals ext k=>av vals y0 λa vals=>av vals tI λleft vals=>nl vals<|nl ext<|j77 a left (λ(r0:Int)=>k [wI r0] [] [])⟩
theorem j9q:Z1p Try.prog 121 jcO:=j04 (np:=0) follows j01 (Z8K jbO Z94) [] oN false Try.func121 λ_ _ k _ h=>aV h λ_ _ _ _ _ h=>aV h λ_ _ _ _ _ h=>nL h λ_ h=>nL h λ_ h=>by subst_vars;exact .trans (by kernel_rfl) h
noncomputable def j78 (a:List Int) (k0:(List Int)->Res):Res:=
 j66 a λ(r:List Int)=>
  k0 r
noncomputable def jcP:Sig Unit:=⟨[.borrow y0 true],[true],λvals ext k=>av vals y0 λa vals=>nl vals<|nl ext<|j78 a (λ(r0:List Int)=>k [⟨y0,true,r0,[.O]⟩] [] [])⟩
theorem j9r:Z1p Try.prog 124 jcP:=j04 (np:=0) follows j01 (Z8K jbQ Z94) [] oN false Try.func124 λ_ _ k _ h=>aV h λ_ _ _ _ _ h=>nL h λ_ h=>nL h λ_ h=>by subst_vars;exact .trans (by kernel_rfl) h
noncomputable def j76 (a:List Int) (b:List Int) (k0:Bool->Res):Res:=
 j5Y a b λ(r:Bool)=>
  bif !r then
   k0 false
  else
   k0 true
noncomputable def jcN:Sig Unit:=⟨[.look y0 true,.look y0 true],[false],λvals ext k=>av vals y0 λa vals=>av vals y0 λb vals=>nl vals<|nl ext<|j76 a b (λ(r0:Bool)=>k [wB r0] [] [])⟩
theorem j9p:Z1p Try.prog 126 jcN:=j04 (np:=0) follows j01 (Z8K jbL Z94) [] oN false Try.func126 λ_ _ k _ h=>aV h λ_ _ _ _ _ h=>aV h λ_ _ _ _ _ h=>nL h λ_ h=>nL h λ_ h=>by subst_vars;exact .trans (by kernel_rfl) h
end Go.PI.G
