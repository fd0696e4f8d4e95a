/-
  Program's code interpreted over typed values; printed texts; plain laws. No conditions.
-/
import Derived.Test.YtppeoiidhmegkaaNa
set_option linter.unusedVariables false
set_option maxRecDepth 100000
namespace Go.PI.G
open Go Go.PI Go.Proofs
open Go.Code (pl pr)
noncomputable def j4T (b:List Int) (at_:Int) (size:Int) (k0:Bool->Res):Res:=
 bif decide (size<1) then
  k0 true
 else
  bif decide (size>6) then
   k0 true
  else
   bif decide (at_<0) then
    k0 true
   else
    k0 (decide (at_>(Z8o ((nI (List.length b))-size))))
noncomputable def j4g:Z1q Unit:=λσ k=>rdN σ 44<|rd1 σ 0 y0 .S λb=>rdI σ 1 λat_=>rdI σ 2 λsize=>j4T b at_ size (λ(t27:Bool)=>k .normal (mkS 44 44 [(0,v1 y0 b .S),(1,vI at_),(2,vI size),(27,vB t27)] []))
theorem jbr {W0:Base} {M:Nat->Prop} (hnp:W0.np<=0):Z22 Try.prog W0 M (cAt 12 (bo Try.f101)) j4g:=j2s follows j01 Z94 hnp [] oN ([0,1,2,27],[]) [] ([],[]) λσ k _ h=>rN h λhn h=>rV h λb h0 h=>rV h λat_ h1 h=>rV h λsize h2 h=>⟨_,Z9m (m:=44) hn (sC h0 (sC h1 (sC h2 sN))) bN,.trans (by kernel_rfl) h⟩
noncomputable def j2h (b:List Int) (at_:Int) (size:Int) (n_:Int) (i:Int) (rec:Int->Int->Res) (k0:Int->Res):Res:=
 bif decide (i<size) then
  bif inb (Z8o (at_+i)) (List.length b) then
   rec (Z8o ((Z8o (n_ * 256))+(Z8o (nth 0 b (Z8o (at_+i)))))) (Z8o (i+1))
  else none
 else
  k0 n_
noncomputable def j5y (b:List Int) (at_:Int) (size:Int):(Int×Int)->(Int×Int->Res)->((Int->Res))->Res:=λv rec q=>j2h b at_ size v.1 v.2 (λn_ i=>rec (n_,i)) q
noncomputable def j4S (b:List Int) (at_:Int) (size:Int) (n:Nat) (n_:Int) (i:Int) (k0:Int->Res):Res:=Z14 (j5y b at_ size) n (n_,i) (k0)
noncomputable def j6u:Z1q Unit:=λσ k=>rdN σ 44<|rd1 σ 0 y0 .S λb=>rdI σ 1 λat_=>rdI σ 2 λsize=>rdI σ 8 λn_=>rdI σ 9 λi=>j4S b at_ size Z12 n_ i (λ(n_1:Int)=>k (.exit 0) (mkS 44 44 [(8,vI n_1)] []))
theorem jbq {W0:Base} {M:Nat->Prop} (hnp:W0.np<=0):Z22 Try.prog W0 M (cAt 122 (bo Try.f101)) j6u:=j0b follows j01 Z94 hnp [j4g] oN [0,1,2,8,9] [] ([],[]) [(0,[8],[])] ([],[]) λσ k _ h=>rN h λhn h=>rV h λb h0 h=>rV h λat_ h1 h=>rV h λsize h2 h=>rV h λn_ h8 h=>rV h λi h9 h=>⟨_,Z9m (m:=44) hn (sC h0 (sC h1 (sC h2 (sC h8 (sC h9 sN))))) bN,.trans (Z88 (λv:Int×Int=>(mkS 44 44 [(0,v1 y0 b .S),(1,vI at_),(2,vI size),(8,vI v.1),(9,vI v.2)] [])) (j5y b at_ size) (λ(k:Z6O Unit)=>(((λ(n_1:Int)=>k (.exit 0) (mkS 44 44 [(8,vI n_1)] []))):(Int->Res))) (λv rec k=>by kernel_rfl) Z12 (n_,i) k) h⟩
noncomputable def j5h (b:List Int) (at_:Int) (size:Int) (k0:Int->Bool->Res):Res:=
 j4T b at_ size λ(t:Bool)=>
  bif t then
   k0 0 false
  else
   j4S b at_ size Z12 0 0 λ(n_:Int)=>
    k0 n_ true
noncomputable def jcQ:Sig Unit:=⟨[.look y0 false,.look tI false,.look tI false],[false,false],λvals ext k=>av vals y0 λb vals=>av vals tI λat_ vals=>av vals tI λsize vals=>nl vals<|nl ext<|j5h b at_ size (λ(r0:Int) (r1:Bool)=>k [wI r0,wB r1] [] [])⟩
theorem jcD:Z1p Try.prog 101 jcQ:=j04 (np:=0) follows j01 Z94 [j4g,j6u] (oI 12 0 (jbr) (oI 122 1 (jbq) oN)) false Try.func101 λ_ _ k _ h=>aV h λ_ _ _ _ _ h=>aV h λ_ _ _ _ _ h=>aV h λ_ _ _ _ _ h=>nL h λ_ h=>nL h λ_ h=>by subst_vars;exact .trans (by delta j5h j4g j6u;refine gz j4T λ_ e=> ?_;rewrite [<-e];refine gz j4S λ_ e=> ?_;rewrite [<-e];kernel_rfl) h
noncomputable def j00 (size:Int) (e0:List Int×Int) (k0:Int->(List Int×Int)->Res):Res:=
 j5h e0.1 e0.2 size λ(r:Int) (r1:Bool)=>
  k0 r (e0.1,Z8o (e0.2+size))
noncomputable def j0c:Sig Unit:=⟨[.ptr y23,.borrow tI false],[false],λvals ext k=>av vals tI λsize vals=>nl vals<|ab ext y23 [.S] λa e0 ext=>nl ext<|j00 size e0 (λ(r0:Int) (x0:List Int×Int)=>k [wI r0] [] [⟨y23,a,x0,[.S]⟩])⟩
theorem j28:Z1p Try.prog 41 j0c:=j04 (np:=0) follows j01 (Z8K jcD Z94) [] oN false Try.func41 λ_ _ k _ h=>aV h λ_ _ _ _ _ h=>nL h λ_ h=>aB h λ_ _ _ _ h=>nL h λ_ h=>by subst_vars;exact .trans (by kernel_rfl) h
noncomputable def j32 (n_:Int) (e0:List Int×Int) (k0:Bool->Res):Res:=
 bif decide (n_>(Z8o ((nI (List.length e0.1))-e0.2))) then
  k0 true
 else
  k0 (decide (e0.2>(nI (List.length e0.1))))
noncomputable def j8h:Z1q Unit:=λσ k=>rdN σ 63<|rdT σ 0 (pB 63)<|rdI σ 1 λn_=>rdB σ 63 y23 [.S] λa e0=>j32 n_ e0 (λ(t28:Bool)=>k .normal (mkS 63 64 [(0,pB 63),(1,vI n_),(28,vB t28)] [(63,⟨y23,a,e0,[.S]⟩)]))
theorem jaM {W0:Base} {M:Nat->Prop} (hnp:W0.np<=0):Z22 Try.prog W0 M (cAt 12 (bo Try.f42)) j8h:=j2s follows j01 Z94 hnp [] oN ([0,1,28],[63]) [] ([],[]) λσ k _ h=>rN h λhn h=>rT h λh0 h=>rV h λn_ h1 h=>rB h λa e0 hb63 h=>⟨_,Z9m (m:=64) hn (sC h0 (sC h1 sN)) (bC hb63 bN),.trans (by kernel_rfl) h⟩
noncomputable def j02 (n_:Int) (e0:List Int×Int) (k0:qB->(List Int×Int)->Res):Res:=
 j32 n_ e0 λ(t:Bool)=>
  bif t then
   k0 eS (e0.1,Z8o ((nI (List.length e0.1))+1))
  else
   bif Z6Z (Z8o ((Z8o (e0.2+n_))-n_)) (Z8o (e0.2+n_)) (List.length e0.1) then
    k0 (Z34 (sub e0.1 (Z8o ((Z8o (e0.2+n_))-n_)) (Z8o (e0.2+n_)))) (e0.1,Z8o (e0.2+n_))
   else none
noncomputable def j0i:Sig Unit:=⟨[.ptr y23,.borrow tI false],[false],λvals ext k=>av vals tI λn_ vals=>nl vals<|ab ext y23 [.S] λa e0 ext=>nl ext<|j02 n_ e0 (λ(r0:qB) (x0:List Int×Int)=>k [wS r0] [] [⟨y23,a,x0,[.S]⟩])⟩
theorem j3e:Z1p Try.prog 42 j0i:=j04 (np:=0) follows j01 Z94 [j8h] (oI 12 0 (jaM) oN) false Try.func42 λ_ _ k _ h=>aV h λ_ _ _ _ _ h=>nL h λ_ h=>aB h λ_ _ _ _ h=>nL h λ_ h=>by subst_vars;exact .trans (by kernel_rfl) h
theorem j9m:Fns Try.prog [(41,j0c),(42,j0i)]:=(Z8K j28 (Z8K j3e Z94))
noncomputable def j0H (t9:Int) (v_:Int×Int×qB) (e0:List Int×Int) (k0:qV->(List Int×Int)->Res):Res:=
 bif (t9==1) then
  j00 1 e0 λ(r:Int) (bt36:List Int×Int)=>
   k0 (v_.1,r,v_.2.2) bt36
 else
  bif (t9==2) then
   j00 1 e0 λ(r1:Int) (bt361:List Int×Int)=>
    j00 6 bt361 λ(r2:Int) (bt362:List Int×Int)=>
     bif (r1==1) then
      k0 (v_.1,Z8o (0-r2),v_.2.2) bt362
     else
      k0 (v_.1,r2,v_.2.2) bt362
  else
   bif (t9==3) then
    j00 1 e0 λ(r3:Int) (bt363:List Int×Int)=>
     j02 r3 bt363 λ(r4:qB) (bt364:List Int×Int)=>
      k0 (v_.1,v_.2.1,r4) bt364
   else
    k0 v_ e0
noncomputable def j6z:Z1q Unit:=λσ k=>rdN σ 36<|rdT σ 0 (pB 36)<|rdT σ 2 (pB 2)<|rdT σ 3 (pB 3)<|rdI σ 9 λt9=>rdB σ 2 y2 [] λa t2=>rdB σ 3 y2 [] λa1 v_=>rdB σ 36 y23 [.S] λa2 e0=>j0H t9 v_ e0 (λ(v_1:Int×Int×qB) (e01:List Int×Int)=>k .normal (mkS 36 37 [(2,pB 2),(3,pB 3)] [(2,⟨y2,a,t2,[]⟩),(3,⟨y2,a1,v_1,[]⟩),(36,⟨y23,a2,e01,[.S]⟩)]))
theorem jbA {W0:Base} {M:Nat->Prop} (hnp:W0.np<=0):Z22 Try.prog W0 M (cAt 29 (bo Try.f102)) j6z:=j2s follows j01 j9m hnp [] oN ([2,3],[2,3,36]) [] ([],[]) λσ k _ h=>rN h λhn h=>rT h λh0 h=>rT h λh2 h=>rT h λh3 h=>rV h λt9 h9 h=>rB h λa t2 hb2 h=>rB h λa1 v_ hb3 h=>rB h λa2 e0 hb36 h=>⟨_,Z9m (m:=37) hn (sC h0 (sC h2 (sC h3 (sC h9 sN)))) (bC hb2 (bC hb3 (bC hb36 bN))),.trans (by delta j0H j0c j0i;refine gz j00 λ_ e=> ?_;rewrite [<-e];refine gz j02 λ_ e=> ?_;rewrite [<-e];kernel_rfl) h⟩
noncomputable def j0Y (e0:List Int×Int) (k0:qV->(List Int×Int)->Res):Res:=
 j00 1 e0 λ(r:Int) (bt36:List Int×Int)=>
  j0H r (r,0,eS) bt36 λ(v_:Int×Int×qB) (e:List Int×Int)=>
   k0 v_ e
noncomputable def j5n:Sig Unit:=⟨[.ptr y23],[true],λvals ext k=>nl vals<|ab ext y23 [.S] λa e0 ext=>nl ext<|j0Y e0 (λ(r0:Int×Int×qB) (x0:List Int×Int)=>k [⟨y2,true,r0,[]⟩] [] [⟨y23,a,x0,[.S]⟩])⟩
theorem j9u:Z1p Try.prog 102 j5n:=j04 (np:=0) follows j01 j9m [j6z] (oI 29 0 (jbA) oN) false Try.func102 λ_ _ k _ h=>nL h λ_ h=>aB h λ_ _ _ _ h=>nL h λ_ h=>by subst_vars;exact .trans (by delta j0Y j0c j6z;refine gz j00 λ_ e=> ?_;rewrite [<-e];refine gz j0H λ_ e=> ?_;rewrite [<-e];kernel_rfl) h
theorem j8U:Fns Try.prog [(41,j0c),(102,j5n)]:=(Z8K j28 (Z8K j9u Z94))
noncomputable def j1W (n_:Int) (out:List qV) (i:Int) (e0:List Int×Int) (rec:qW->Int->(List Int×Int)->Res) (k0:qW->(List Int×Int)->Res):Res:=
 bif decide (i<n_) then
  bif decide (i<=8) then
   j0Y e0 λ(r:Int×Int×qB) (bt24:List Int×Int)=>
    bif lim ((List.length out)+1) then
     rec (out++[r]) (Z8o (i+1)) bt24
    else none
  else
   k0 out e0
 else
  k0 out e0
noncomputable def j55 (n_:Int):(qW×Int×(List Int×Int))->(qW×Int×(List Int×Int)->Res)->((qW->(List Int×Int)->Res))->Res:=λv rec q=>j1W n_ v.1 v.2.1 v.2.2 (λout i e0=>rec (out,i,e0)) q
noncomputable def j6n (n_:Int) (n:Nat) (out:List qV) (i:Int) (e0:List Int×Int) (k0:qW->(List Int×Int)->Res):Res:=Z14 (j55 n_) n (out,i,e0) (k0)
noncomputable def j5P:Z1q Unit:=λσ k=>rdN σ 24<|rdT σ 0 (pB 24)<|rd1 σ 3 y3 .O λout=>rdI σ 4 λn_=>rdI σ 5 λi=>rdB σ 24 y23 [.S] λa e0=>j6n n_ Z12 out i e0 (λ(out1:List qV) (e01:List Int×Int)=>k (.exit 0) (mkS 24 25 [(3,v1 y3 out1 .O)] [(24,⟨y23,a,e01,[.S]⟩)]))
theorem jaN {W0:Base} {M:Nat->Prop} (hnp:W0.np<=0):Z22 Try.prog W0 M (cAt 122 (bo Try.f43)) j5P:=j0b follows j01 j8U hnp [] oN [0,3,4,5] [24] ([],[]) [(0,[3],[24])] ([],[]) λσ k _ h=>rN h λhn h=>rT h λh0 h=>rV h λout h3 h=>rV h λn_ h4 h=>rV h λi h5 h=>rB h λa e0 hb24 h=>⟨_,Z9m (m:=25) hn (sC h0 (sC h3 (sC h4 (sC h5 sN)))) (bC hb24 bN),.trans (Z88 (λv:qW×Int×(List Int×Int)=>(mkS 24 25 [(0,pB 24),(3,v1 y3 v.1 .O),(4,vI n_),(5,vI v.2.1)] [(24,⟨y23,a,v.2.2,[.S]⟩)])) (j55 n_) (λ(k:Z6O Unit)=>(((λ(out1:List qV) (e01:List Int×Int)=>k (.exit 0) (mkS 24 25 [(3,v1 y3 out1 .O)] [(24,⟨y23,a,e01,[.S]⟩)]))):(qW->(List Int×Int)->Res))) (λv rec k=>by kernel_rfl) Z12 (out,i,e0) k) h⟩
noncomputable def j3u (e0:List Int×Int) (k0:qW->(List Int×Int)->Res):Res:=
 j00 1 e0 λ(r:Int) (bt24:List Int×Int)=>
  j6n r Z12 [] 0 bt24 λ(out:List qV) (e:List Int×Int)=>
   k0 out e
noncomputable def j6W:Sig Unit:=⟨[.ptr y23],[false],λvals ext k=>nl vals<|ab ext y23 [.S] λa e0 ext=>nl ext<|j3u e0 (λ(r0:List qV) (x0:List Int×Int)=>k [w1 y3 r0 .O] [] [⟨y23,a,x0,[.S]⟩])⟩
theorem jbW:Z1p Try.prog 43 j6W:=j04 (np:=0) follows j01 j8U [j5P] (oI 122 0 (jaN) oN) false Try.func43 λ_ _ k _ h=>nL h λ_ h=>aB h λ_ _ _ _ h=>nL h λ_ h=>by subst_vars;exact .trans (by delta j3u j0c j5P;refine gz j00 λ_ e=> ?_;rewrite [<-e];refine gz j6n λ_ e=> ?_;rewrite [<-e];kernel_rfl) h
theorem j36:Fns Try.prog [(41,j0c),(42,j0i),(102,j5n)]:=(Z8K j28 (Z8K j3e (Z8K j9u Z94)))
noncomputable def j0G (n_:Int) (i:Int) (d:qG) (e0:List Int×Int) (rec:Int->qG->(List Int×Int)->Res) (k0:qG->(List Int×Int)->Res):Res:=
 bif decide (i<n_) then
  bif decide (i<=8) then
   j00 1 e0 λ(r:Int) (bt80:List Int×Int)=>
    j02 r bt80 λ(r1:qB) (bt801:List Int×Int)=>
     j00 1 bt801 λ(r2:Int) (bt802:List Int×Int)=>
      j00 1 bt802 λ(r3:Int) (bt803:List Int×Int)=>
       j00 1 bt803 λ(r4:Int) (bt804:List Int×Int)=>
        j0Y bt804 λ(r5:Int×Int×qB) (bt805:List Int×Int)=>
         bif lim ((List.length d.2.2.1)+1) then
          rec (Z8o (i+1)) (d.1,d.2.1,(d.2.2.1++[(r1,r2,(r3==1),(r4==1),r5)]),d.2.2.2) bt805
         else none
  else
   k0 d e0
 else
  k0 d e0
noncomputable def j22 (n_:Int):(Int×qG×(List Int×Int))->(Int×qG×(List Int×Int)->Res)->((qG->(List Int×Int)->Res))->Res:=λv rec q=>j0G n_ v.1 v.2.1 v.2.2 (λi d e0=>rec (i,d,e0)) q
noncomputable def j2Z (n_:Int) (n:Nat) (i:Int) (d:qG) (e0:List Int×Int) (k0:qG->(List Int×Int)->Res):Res:=Z14 (j22 n_) n (i,d,e0) (k0)
noncomputable def j1m:Z1q Unit:=λσ k=>rdN σ 80<|rdT σ 0 (pB 80)<|rdT σ 4 (pB 4)<|rdT σ 5 (pB 5)<|rdI σ 6 λn_=>rdI σ 7 λi=>rdB σ 4 y14 [.O,.O] λa t4=>rdB σ 5 y14 [.O,.O] λa1 d=>rdB σ 80 y23 [.S] λa2 e0=>j2Z n_ Z12 i d e0 (λ(d1:qG) (e01:List Int×Int)=>k (.exit 0) (mkS 80 81 [(0,pB 80),(4,pB 4),(5,pB 5)] [(4,⟨y14,a,t4,[.O,.O]⟩),(5,⟨y14,a1,d1,[.O,.O]⟩),(80,⟨y23,a2,e01,[.S]⟩)]))
theorem j9x {W0:Base} {M:Nat->Prop} (hnp:W0.np<=0):Z22 Try.prog W0 M (cAt 122 (bo Try.f44)) j1m:=j0b follows j01 j36 hnp [] oN [0,4,5,6,7] [4,5,80] ([],[]) [(0,[0,4,5],[4,5,80])] ([],[]) λσ k _ h=>rN h λhn h=>rT h λh0 h=>rT h λh4 h=>rT h λh5 h=>rV h λn_ h6 h=>rV h λi h7 h=>rB h λa t4 hb4 h=>rB h λa1 d hb5 h=>rB h λa2 e0 hb80 h=>⟨_,Z9m (m:=81) hn (sC h0 (sC h4 (sC h5 (sC h6 (sC h7 sN))))) (bC hb4 (bC hb5 (bC hb80 bN))),.trans (Z88 (λv:Int×qG×(List Int×Int)=>(mkS 80 81 [(0,pB 80),(4,pB 4),(5,pB 5),(6,vI n_),(7,vI v.1)] [(4,⟨y14,a,t4,[.O,.O]⟩),(5,⟨y14,a1,v.2.1,[.O,.O]⟩),(80,⟨y23,a2,v.2.2,[.S]⟩)])) (j22 n_) (λ(k:Z6O Unit)=>(((λ(d1:qG) (e01:List Int×Int)=>k (.exit 0) (mkS 80 81 [(0,pB 80),(4,pB 4),(5,pB 5)] [(4,⟨y14,a,t4,[.O,.O]⟩),(5,⟨y14,a1,d1,[.O,.O]⟩),(80,⟨y23,a2,e01,[.S]⟩)]))):(qG->(List Int×Int)->Res))) (λv rec k=>by delta j22 j0G j0c j0i j5n;refine gz j00 λ_ e=> ?_;rewrite [<-e];refine gz j02 λ_ e=> ?_;rewrite [<-e];refine gz j0Y λ_ e=> ?_;rewrite [<-e];kernel_rfl) Z12 (i,d,e0) k) h⟩
noncomputable def j31 (d:qG) (e0:List Int×Int) (k0:qG->(List Int×Int)->Res):Res:=
 Z6T
  (Z6T
   (Z6T
    (j00 1 e0 λ(r:Int) (bt80:List Int×Int)=>
     j02 r bt80 λ(r1:qB) (bt801:List Int×Int)=>
      bif lim ((List.length d.2.2.2.1)+1) then
       k0 (d.1,d.2.1,d.2.2.1,(d.2.2.2.1++[r1]),d.2.2.2.2) bt801
      else none)
    (Z6T
     (j00 1 e0 λ(r2:Int) (bt802:List Int×Int)=>
      j02 r2 bt802 λ(r3:qB) (bt803:List Int×Int)=>
       bif lim ((List.length d.2.2.2.1)+1) then
        k0 (d.1,d.2.1,d.2.2.1,(d.2.2.2.1++[r3]),d.2.2.2.2) bt803
       else none)
     (j00 1 e0 λ(r4:Int) (bt804:List Int×Int)=>
      j02 r4 bt804 λ(r5:qB) (bt805:List Int×Int)=>
       bif lim ((List.length d.2.2.2.1)+1) then
        k0 (d.1,d.2.1,d.2.2.1,(d.2.2.2.1++[r5]),d.2.2.2.2) bt805
       else none)))
   (Z6T
    (Z6T
     (j00 1 e0 λ(r6:Int) (bt806:List Int×Int)=>
      j02 r6 bt806 λ(r7:qB) (bt807:List Int×Int)=>
       bif lim ((List.length d.2.2.2.1)+1) then
        k0 (d.1,d.2.1,d.2.2.1,(d.2.2.2.1++[r7]),d.2.2.2.2) bt807
       else none)
     (Z6T
      (j00 1 e0 λ(r8:Int) (bt808:List Int×Int)=>
       j02 r8 bt808 λ(r9:qB) (bt809:List Int×Int)=>
        bif lim ((List.length d.2.2.2.1)+1) then
         k0 (d.1,d.2.1,d.2.2.1,(d.2.2.2.1++[r9]),d.2.2.2.2) bt809
        else none)
      (j00 1 e0 λ(r10:Int) (bt8010:List Int×Int)=>
       Z6T
        (j02 r10 bt8010 λ(r11:qB) (bt8011:List Int×Int)=>
         bif lim ((List.length d.2.2.2.1)+1) then
          k0 (d.1,d.2.1,d.2.2.1,(d.2.2.2.1++[r11]),d.2.2.2.2) bt8011
         else none)
        (j02 r10 bt8010 λ(r12:qB) (bt8012:List Int×Int)=>
         bif lim ((List.length d.2.2.2.1)+1) then
          k0 (d.1,d.2.1,d.2.2.1,(d.2.2.2.1++[r12]),d.2.2.2.2) bt8012
         else none))))
    (Z6T
     (Z6T
      (j00 1 e0 λ(r13:Int) (bt8013:List Int×Int)=>
       j02 r13 bt8013 λ(r14:qB) (bt8014:List Int×Int)=>
        bif lim ((List.length d.2.2.2.1)+1) then
         k0 (d.1,d.2.1,d.2.2.1,(d.2.2.2.1++[r14]),d.2.2.2.2) bt8014
        else none)
      (j00 1 e0 λ(r15:Int) (bt8015:List Int×Int)=>
       j02 r15 bt8015 λ(r16:qB) (bt8016:List Int×Int)=>
        bif lim ((List.length d.2.2.2.1)+1) then
         k0 (d.1,d.2.1,d.2.2.1,(d.2.2.2.1++[r16]),d.2.2.2.2) bt8016
        else none))
     (Z6T
      (Z6T
       (j00 1 e0 λ(r17:Int) (bt8017:List Int×Int)=>
        j02 r17 bt8017 λ(r18:qB) (bt8018:List Int×Int)=>
         bif lim ((List.length d.2.2.2.1)+1) then
          k0 (d.1,d.2.1,d.2.2.1,(d.2.2.2.1++[r18]),d.2.2.2.2) bt8018
         else none)
       (j00 1 e0 λ(r19:Int) (bt8019:List Int×Int)=>
        Z6T
         (j02 r19 bt8019 λ(r20:qB) (bt8020:List Int×Int)=>
          bif lim ((List.length d.2.2.2.1)+1) then
           k0 (d.1,d.2.1,d.2.2.1,(d.2.2.2.1++[r20]),d.2.2.2.2) bt8020
          else none)
         (j02 r19 bt8019 λ(r21:qB) (bt8021:List Int×Int)=>
          bif lim ((List.length d.2.2.2.1)+1) then
           k0 (d.1,d.2.1,d.2.2.1,(d.2.2.2.1++[r21]),d.2.2.2.2) bt8021
          else none)))
      (j00 1 e0 λ(r22:Int) (bt8022:List Int×Int)=>
       Z6T
        (j02 r22 bt8022 λ(r23:qB) (bt8023:List Int×Int)=>
         bif lim ((List.length d.2.2.2.1)+1) then
          k0 (d.1,d.2.1,d.2.2.1,(d.2.2.2.1++[r23]),d.2.2.2.2) bt8023
         else none)
        (j02 r22 bt8022 λ(r24:qB) (bt8024:List Int×Int)=>
         bif lim ((List.length d.2.2.2.1)+1) then
          k0 (d.1,d.2.1,d.2.2.1,(d.2.2.2.1++[r24]),d.2.2.2.2) bt8024
         else none))))))
  (Z6T
   (Z6T
    (Z6T
     (j00 1 e0 λ(r25:Int) (bt8025:List Int×Int)=>
      j02 r25 bt8025 λ(r26:qB) (bt8026:List Int×Int)=>
       bif lim ((List.length d.2.2.2.1)+1) then
        k0 (d.1,d.2.1,d.2.2.1,(d.2.2.2.1++[r26]),d.2.2.2.2) bt8026
       else none)
     (Z6T
      (j00 1 e0 λ(r27:Int) (bt8027:List Int×Int)=>
       j02 r27 bt8027 λ(r28:qB) (bt8028:List Int×Int)=>
        bif lim ((List.length d.2.2.2.1)+1) then
         k0 (d.1,d.2.1,d.2.2.1,(d.2.2.2.1++[r28]),d.2.2.2.2) bt8028
        else none)
      (j00 1 e0 λ(r29:Int) (bt8029:List Int×Int)=>
       Z6T
        (j02 r29 bt8029 λ(r30:qB) (bt8030:List Int×Int)=>
         bif lim ((List.length d.2.2.2.1)+1) then
          k0 (d.1,d.2.1,d.2.2.1,(d.2.2.2.1++[r30]),d.2.2.2.2) bt8030
         else none)
        (j02 r29 bt8029 λ(r31:qB) (bt8031:List Int×Int)=>
         bif lim ((List.length d.2.2.2.1)+1) then
          k0 (d.1,d.2.1,d.2.2.1,(d.2.2.2.1++[r31]),d.2.2.2.2) bt8031
         else none))))
    (Z6T
     (Z6T
      (j00 1 e0 λ(r32:Int) (bt8032:List Int×Int)=>
       j02 r32 bt8032 λ(r33:qB) (bt8033:List Int×Int)=>
        bif lim ((List.length d.2.2.2.1)+1) then
         k0 (d.1,d.2.1,d.2.2.1,(d.2.2.2.1++[r33]),d.2.2.2.2) bt8033
        else none)
      (j00 1 e0 λ(r34:Int) (bt8034:List Int×Int)=>
       Z6T
        (j02 r34 bt8034 λ(r35:qB) (bt8035:List Int×Int)=>
         bif lim ((List.length d.2.2.2.1)+1) then
          k0 (d.1,d.2.1,d.2.2.1,(d.2.2.2.1++[r35]),d.2.2.2.2) bt8035
         else none)
        (j02 r34 bt8034 λ(r36:qB) (bt8036:List Int×Int)=>
         bif lim ((List.length d.2.2.2.1)+1) then
          k0 (d.1,d.2.1,d.2.2.1,(d.2.2.2.1++[r36]),d.2.2.2.2) bt8036
         else none)))
     (j00 1 e0 λ(r37:Int) (bt8037:List Int×Int)=>
      Z6T
       (Z6T
        (j02 r37 bt8037 λ(r38:qB) (bt8038:List Int×Int)=>
         bif lim ((List.length d.2.2.2.1)+1) then
          k0 (d.1,d.2.1,d.2.2.1,(d.2.2.2.1++[r38]),d.2.2.2.2) bt8038
         else none)
        (j02 r37 bt8037 λ(r39:qB) (bt8039:List Int×Int)=>
         bif lim ((List.length d.2.2.2.1)+1) then
          k0 (d.1,d.2.1,d.2.2.1,(d.2.2.2.1++[r39]),d.2.2.2.2) bt8039
         else none))
       (j02 r37 bt8037 λ(r40:qB) (bt8040:List Int×Int)=>
        bif lim ((List.length d.2.2.2.1)+1) then
         k0 (d.1,d.2.1,d.2.2.1,(d.2.2.2.1++[r40]),d.2.2.2.2) bt8040
        else none))))
   (Z6T
    (Z6T
     (Z6T
      (j00 1 e0 λ(r41:Int) (bt8041:List Int×Int)=>
       j02 r41 bt8041 λ(r42:qB) (bt8042:List Int×Int)=>
        bif lim ((List.length d.2.2.2.1)+1) then
         k0 (d.1,d.2.1,d.2.2.1,(d.2.2.2.1++[r42]),d.2.2.2.2) bt8042
        else none)
      (j00 1 e0 λ(r43:Int) (bt8043:List Int×Int)=>
       j02 r43 bt8043 λ(r44:qB) (bt8044:List Int×Int)=>
        bif lim ((List.length d.2.2.2.1)+1) then
         k0 (d.1,d.2.1,d.2.2.1,(d.2.2.2.1++[r44]),d.2.2.2.2) bt8044
        else none))
     (Z6T
      (Z6T
       (j00 1 e0 λ(r45:Int) (bt8045:List Int×Int)=>
        j02 r45 bt8045 λ(r46:qB) (bt8046:List Int×Int)=>
         bif lim ((List.length d.2.2.2.1)+1) then
          k0 (d.1,d.2.1,d.2.2.1,(d.2.2.2.1++[r46]),d.2.2.2.2) bt8046
         else none)
       (j00 1 e0 λ(r47:Int) (bt8047:List Int×Int)=>
        Z6T
         (j02 r47 bt8047 λ(r48:qB) (bt8048:List Int×Int)=>
          bif lim ((List.length d.2.2.2.1)+1) then
           k0 (d.1,d.2.1,d.2.2.1,(d.2.2.2.1++[r48]),d.2.2.2.2) bt8048
          else none)
         (j02 r47 bt8047 λ(r49:qB) (bt8049:List Int×Int)=>
          bif lim ((List.length d.2.2.2.1)+1) then
           k0 (d.1,d.2.1,d.2.2.1,(d.2.2.2.1++[r49]),d.2.2.2.2) bt8049
          else none)))
      (j00 1 e0 λ(r50:Int) (bt8050:List Int×Int)=>
       Z6T
        (j02 r50 bt8050 λ(r51:qB) (bt8051:List Int×Int)=>
         bif lim ((List.length d.2.2.2.1)+1) then
          k0 (d.1,d.2.1,d.2.2.1,(d.2.2.2.1++[r51]),d.2.2.2.2) bt8051
         else none)
        (j02 r50 bt8050 λ(r52:qB) (bt8052:List Int×Int)=>
         bif lim ((List.length d.2.2.2.1)+1) then
          k0 (d.1,d.2.1,d.2.2.1,(d.2.2.2.1++[r52]),d.2.2.2.2) bt8052
         else none))))
    (Z6T
     (Z6T
      (Z6T
       (j00 1 e0 λ(r53:Int) (bt8053:List Int×Int)=>
        j02 r53 bt8053 λ(r54:qB) (bt8054:List Int×Int)=>
         bif lim ((List.length d.2.2.2.1)+1) then
          k0 (d.1,d.2.1,d.2.2.1,(d.2.2.2.1++[r54]),d.2.2.2.2) bt8054
         else none)
       (j00 1 e0 λ(r55:Int) (bt8055:List Int×Int)=>
        Z6T
         (j02 r55 bt8055 λ(r56:qB) (bt8056:List Int×Int)=>
          bif lim ((List.length d.2.2.2.1)+1) then
           k0 (d.1,d.2.1,d.2.2.1,(d.2.2.2.1++[r56]),d.2.2.2.2) bt8056
          else none)
         (j02 r55 bt8055 λ(r57:qB) (bt8057:List Int×Int)=>
          bif lim ((List.length d.2.2.2.1)+1) then
           k0 (d.1,d.2.1,d.2.2.1,(d.2.2.2.1++[r57]),d.2.2.2.2) bt8057
          else none)))
      (j00 1 e0 λ(r58:Int) (bt8058:List Int×Int)=>
       Z6T
        (Z6T
         (j02 r58 bt8058 λ(r59:qB) (bt8059:List Int×Int)=>
          bif lim ((List.length d.2.2.2.1)+1) then
           k0 (d.1,d.2.1,d.2.2.1,(d.2.2.2.1++[r59]),d.2.2.2.2) bt8059
          else none)
         (j02 r58 bt8058 λ(r60:qB) (bt8060:List Int×Int)=>
          bif lim ((List.length d.2.2.2.1)+1) then
           k0 (d.1,d.2.1,d.2.2.1,(d.2.2.2.1++[r60]),d.2.2.2.2) bt8060
          else none))
        (j02 r58 bt8058 λ(r61:qB) (bt8061:List Int×Int)=>
         bif lim ((List.length d.2.2.2.1)+1) then
          k0 (d.1,d.2.1,d.2.2.1,(d.2.2.2.1++[r61]),d.2.2.2.2) bt8061
         else none)))
     (j00 1 e0 λ(r62:Int) (bt8062:List Int×Int)=>
      Z6T
       (Z6T
        (j02 r62 bt8062 λ(r63:qB) (bt8063:List Int×Int)=>
         bif lim ((List.length d.2.2.2.1)+1) then
          k0 (d.1,d.2.1,d.2.2.1,(d.2.2.2.1++[r63]),d.2.2.2.2) bt8063
         else none)
        (j02 r62 bt8062 λ(r64:qB) (bt8064:List Int×Int)=>
         bif lim ((List.length d.2.2.2.1)+1) then
          k0 (d.1,d.2.1,d.2.2.1,(d.2.2.2.1++[r64]),d.2.2.2.2) bt8064
         else none))
       (j02 r62 bt8062 λ(r65:qB) (bt8065:List Int×Int)=>
        bif lim ((List.length d.2.2.2.1)+1) then
         k0 (d.1,d.2.1,d.2.2.1,(d.2.2.2.1++[r65]),d.2.2.2.2) bt8065
        else none)))))
noncomputable def j46:Z1q Unit:=λσ k=>rdN σ 80<|rdT σ 0 (pB 80)<|rdT σ 4 (pB 4)<|rdT σ 5 (pB 5)<|rdI σ 6 λn_=>rdI σ 9 λi=>rdI σ 55 λt55=>rdO σ 56 λt56=>rdB σ 4 y14 [.O,.O] λa t4=>rdB σ 5 y14 [.O,.O] λa1 d=>rdB σ 80 y23 [.S] λa2 e0=>j31 d e0 (λ(d1:qG) (e01:List Int×Int)=>k .normal (mkS 80 81 [(0,pB 80),(4,pB 4),(5,pB 5),(6,vI n_),(9,vI i),(55,vI t55),(56,vB t56)] [(4,⟨y14,a,t4,[.O,.O]⟩),(5,⟨y14,a1,d1,[.O,.O]⟩),(80,⟨y23,a2,e01,[.S]⟩)]))
theorem j9z {W0:Base} {M:Nat->Prop} (hnp:W0.np<=0):Z22 Try.prog W0 M (cAt 4050 (bo Try.f44)) j46:=j2s follows j01 j36 hnp [j1m] oN ([0,4,5,6,9,55,56],[4,5,80]) [] ([],[]) λσ k _ h=>rN h λhn h=>rT h λh0 h=>rT h λh4 h=>rT h λh5 h=>rV h λn_ h6 h=>rV h λi h9 h=>rV h λt55 h55 h=>rV h λt56 h56 h=>rB h λa t4 hb4 h=>rB h λa1 d hb5 h=>rB h λa2 e0 hb80 h=>⟨_,Z9m (m:=81) hn (sC h0 (sC h4 (sC h5 (sC h6 (sC h9 (sC h55 (sC h56 sN))))))) (bC hb4 (bC hb5 (bC hb80 bN))),.trans (by delta j31 j0c j0i;refine gz j00 λ_ e=> ?_;rewrite [<-e];refine gz j02 λ_ e=> ?_;rewrite [<-e];kernel_rfl) h⟩
noncomputable def j15 (n_:Int) (i:Int) (d:qG) (e0:List Int×Int) (rec:Int->qG->(List Int×Int)->Res) (k0:qG->(List Int×Int)->Res):Res:=
 bif decide (i<n_) then
  bif decide (i<=8) then
   j31 d e0 λ(d1:qG) (e:List Int×Int)=>
    rec (Z8o (i+1)) d1 e
  else
   k0 d e0
 else
  k0 d e0
noncomputable def j3K (n_:Int):(Int×qG×(List Int×Int))->(Int×qG×(List Int×Int)->Res)->((qG->(List Int×Int)->Res))->Res:=λv rec q=>j15 n_ v.1 v.2.1 v.2.2 (λi d e0=>rec (i,d,e0)) q
noncomputable def j30 (n_:Int) (n:Nat) (i:Int) (d:qG) (e0:List Int×Int) (k0:qG->(List Int×Int)->Res):Res:=Z14 (j3K n_) n (i,d,e0) (k0)
noncomputable def j45:Z1q Unit:=λσ k=>rdN σ 80<|rdT σ 0 (pB 80)<|rdT σ 4 (pB 4)<|rdT σ 5 (pB 5)<|rdI σ 6 λn_=>rdI σ 9 λi=>rdB σ 4 y14 [.O,.O] λa t4=>rdB σ 5 y14 [.O,.O] λa1 d=>rdB σ 80 y23 [.S] λa2 e0=>j30 n_ Z12 i d e0 (λ(d2:qG) (e01:List Int×Int)=>k (.exit 2) (mkS 80 81 [(0,pB 80),(4,pB 4),(5,pB 5)] [(4,⟨y14,a,t4,[.O,.O]⟩),(5,⟨y14,a1,d2,[.O,.O]⟩),(80,⟨y23,a2,e01,[.S]⟩)]))
theorem j9y {W0:Base} {M:Nat->Prop} (hnp:W0.np<=0):Z22 Try.prog W0 M (cAt 506 (bo Try.f44)) j45:=j0b follows j01 j36 hnp [j1m,j46] (oI 6 1 (j9z) oN) [0,4,5,6,9] [4,5,80] ([],[]) [(2,[0,4,5],[4,5,80])] ([],[]) λσ k _ h=>rN h λhn h=>rT h λh0 h=>rT h λh4 h=>rT h λh5 h=>rV h λn_ h6 h=>rV h λi h9 h=>rB h λa t4 hb4 h=>rB h λa1 d hb5 h=>rB h λa2 e0 hb80 h=>⟨_,Z9m (m:=81) hn (sC h0 (sC h4 (sC h5 (sC h6 (sC h9 sN))))) (bC hb4 (bC hb5 (bC hb80 bN))),.trans (Z88 (λv:Int×qG×(List Int×Int)=>(mkS 80 81 [(0,pB 80),(4,pB 4),(5,pB 5),(6,vI n_),(9,vI v.1)] [(4,⟨y14,a,t4,[.O,.O]⟩),(5,⟨y14,a1,v.2.1,[.O,.O]⟩),(80,⟨y23,a2,v.2.2,[.S]⟩)])) (j3K n_) (λ(k:Z6O Unit)=>(((λ(d2:qG) (e01:List Int×Int)=>k (.exit 2) (mkS 80 81 [(0,pB 80),(4,pB 4),(5,pB 5)] [(4,⟨y14,a,t4,[.O,.O]⟩),(5,⟨y14,a1,d2,[.O,.O]⟩),(80,⟨y23,a2,e01,[.S]⟩)]))):(qG->(List Int×Int)->Res))) (λv rec k=>by kernel_rfl) Z12 (i,d,e0) k) h⟩
noncomputable def j2Y (table:qB) (e0:List Int×Int) (k0:qG->(List Int×Int)->Res):Res:=
 j00 1 e0 λ(r:Int) (bt80:List Int×Int)=>
  j00 1 bt80 λ(r1:Int) (bt801:List Int×Int)=>
   j2Z r1 Z12 0 (r,table,[],[],eS,eS) bt801 λ(d:qG) (e:List Int×Int)=>
    j00 1 e λ(r2:Int) (bt802:List Int×Int)=>
     j30 r2 Z12 0 d bt802 λ(d1:qG) (e1:List Int×Int)=>
      j00 1 e1 λ(r3:Int) (bt803:List Int×Int)=>
       j02 r3 bt803 λ(r4:qB) (bt804:List Int×Int)=>
        j00 1 bt804 λ(r5:Int) (bt805:List Int×Int)=>
         j02 r5 bt805 λ(r6:qB) (bt806:List Int×Int)=>
          k0 (d1.1,d1.2.1,d1.2.2.1,d1.2.2.2.1,r4,r6) bt806
noncomputable def j7z:Sig Unit:=⟨[.ptr y23,.borrow .str false],[true],λvals ext k=>av vals .str λtable vals=>nl vals<|ab ext y23 [.S] λa e0 ext=>nl ext<|j2Y table e0 (λ(r0:qG) (x0:List Int×Int)=>k [⟨y14,true,r0,[.O,.O]⟩] [] [⟨y23,a,x0,[.S]⟩])⟩
theorem ja1:Z1p Try.prog 44 j7z:=j04 (np:=0) follows j01 j36 [j1m,j46,j45] (oI 122 0 (j9x) (oI 506 2 (j9y) oN)) false Try.func44 λ_ _ k _ h=>aV h λ_ _ _ _ _ h=>nL h λ_ h=>aB h λ_ _ _ _ h=>nL h λ_ h=>by subst_vars;exact .trans (by delta j2Y j0c j1m j45 j0i;refine gz j00 λ_ e=> ?_;rewrite [<-e];refine gz j2Z λ_ e=> ?_;rewrite [<-e];refine gz j30 λ_ e=> ?_;rewrite [<-e];refine gz j02 λ_ e=> ?_;rewrite [<-e];kernel_rfl) h
noncomputable def j6Y (s:qB) (k0:(List Int)->Bool->Res):Res:=
 bif sNe s eS then
  j0l s λ(r:Bool)=>
   bif !r then
    k0 [] false
   else
    bif lim (ByteArray.size s) then
     bif lim (1+(List.length (Z1e s))) then
      k0 ([wu8 (nI (ByteArray.size s))]++(Z1e s)) true
     else none
    else none
 else
  bif lim (ByteArray.size s) then
   bif lim (1+(List.length (Z1e s))) then
    k0 ([wu8 (nI (ByteArray.size s))]++(Z1e s)) true
   else none
  else none
noncomputable def jaU:Sig Unit:=⟨[.borrow .str false],[false,false],λvals ext k=>av vals .str λs vals=>nl vals<|nl ext<|j6Y s (λ(r0:List Int) (r1:Bool)=>k [w1 y0 r0 .O,wB r1] [] [])⟩
theorem jav:Z1p Try.prog 152 jaU:=j04 (np:=0) follows j01 (Z8K j1F Z94) [] oN false Try.func152 λ_ _ k _ h=>aV h λ_ _ _ _ _ h=>nL h λ_ h=>nL h λ_ h=>by subst_vars;exact .trans (by kernel_rfl) h
noncomputable def j0v (b:List Int) (s:qB) (k0:(List Int)->Res):Res:=
 j6Y s λ(r:List Int) (r1:Bool)=>
  bif lim ((List.length b)+(List.length r)) then
   k0 (b++r)
  else none
noncomputable def j3l:Sig Unit:=⟨[.eat y0 false,.borrow .str false],[false],λvals ext k=>ao vals y0 [.O] λb vals=>av vals .str λs vals=>nl vals<|nl ext<|j0v b s (λ(r0:List Int)=>k [w1 y0 r0 .O] [] [])⟩
theorem j4E:Z1p Try.prog 104 j3l:=j04 (np:=0) follows j01 (Z8K jav Z94) [] oN false Try.func104 λ_ _ k _ h=>aO h λ_ _ _ _ h=>aV h λ_ _ _ _ _ h=>nL h λ_ h=>nL h λ_ h=>by subst_vars;exact .trans (by kernel_rfl) h
noncomputable def j2n (size:Int) (p:Int) (i:Int) (rec:Int->Int->Res) (k0:Int->Res):Res:=
 bif decide (i<size) then
  rec (Z8o (p * 256)) (Z8o (i+1))
 else
  k0 p
noncomputable def j5F (size:Int):(Int×Int)->(Int×Int->Res)->((Int->Res))->Res:=λv rec q=>j2n size v.1 v.2 (λp i=>rec (p,i)) q
noncomputable def j70 (size:Int) (n:Nat) (p:Int) (i:Int) (k0:Int->Res):Res:=Z14 (j5F size) n (p,i) (k0)
noncomputable def j8C:Z1q Unit:=λσ k=>rdN σ 13<|rdI σ 0 λsize=>rdI σ 3 λp=>rdI σ 4 λi=>j70 size Z12 p i (λ(p1:Int)=>k (.exit 0) (mkS 13 13 [(3,vI p1)] []))
theorem jbz {W0:Base} {M:Nat->Prop} (hnp:W0.np<=0):Z22 Try.prog W0 M (cAt 58 (bo Try.f198)) j8C:=j0b follows j01 Z94 hnp [] oN [0,3,4] [] ([],[]) [(0,[3],[])] ([],[]) λσ k _ h=>rN h λhn h=>rV h λsize h0 h=>rV h λp h3 h=>rV h λi h4 h=>⟨_,Z9m (m:=13) hn (sC h0 (sC h3 (sC h4 sN))) bN,.trans (Z88 (λv:Int×Int=>(mkS 13 13 [(0,vI size),(3,vI v.1),(4,vI v.2)] [])) (j5F size) (λ(k:Z6O Unit)=>(((λ(p1:Int)=>k (.exit 0) (mkS 13 13 [(3,vI p1)] []))):(Int->Res))) (λv rec k=>by kernel_rfl) Z12 (p,i) k) h⟩
noncomputable def j5j (size:Int) (k0:Int->Res):Res:=
 j70 size Z12 1 0 λ(p:Int)=>
  k0 p
noncomputable def jcS:Sig Unit:=⟨[.look tI false],[false],λvals ext k=>av vals tI λsize vals=>nl vals<|nl ext<|j5j size (λ(r0:Int)=>k [wI r0] [] [])⟩
theorem j7k:Z1p Try.prog 198 jcS:=j04 (np:=0) follows j01 Z94 [j8C] (oI 58 0 (jbz) oN) false Try.func198 λ_ _ k _ h=>aV h λ_ _ _ _ _ h=>nL h λ_ h=>nL h λ_ h=>by subst_vars;exact .trans (by kernel_rfl) h
noncomputable def j3p (n_:Int) (size:Int) (k0:Bool->Res):Res:=
 bif decide (size<1) then
  k0 true
 else
  bif decide (size>6) then
   k0 true
  else
   bif decide (n_<0) then
    k0 true
   else
    j5j size λ(r:Int)=>
     k0 (decide (n_>=r))
noncomputable def j4h:Z1q Unit:=λσ k=>rdN σ 45<|rd1 σ 0 y0 .S λb=>rdI σ 1 λn_=>rdI σ 2 λsize=>j3p n_ size (λ(t25:Bool)=>k .normal (mkS 45 45 [(0,v1 y0 b .S),(1,vI n_),(2,vI size),(25,vB t25)] []))
theorem jbu {W0:Base} {M:Nat->Prop} (hnp:W0.np<=0):Z22 Try.prog W0 M (cAt 12 (bo Try.f161)) j4h:=j2s follows j01 (Z8K j7k Z94) hnp [] oN ([0,1,2,25],[]) [] ([],[]) λσ k _ h=>rN h λhn h=>rV h λb h0 h=>rV h λn_ h1 h=>rV h λsize h2 h=>⟨_,Z9m (m:=45) hn (sC h0 (sC h1 (sC h2 sN))) bN,.trans (by kernel_rfl) h⟩
noncomputable def j2i (n_:Int) (out:List Int) (i:Int) (rec:(List Int)->Int->Res) (k0:(List Int)->Res):Res:=
 bif decide (i>=0) then
  j5j i λ(r:Int)=>
   bif !(decide (r=0)) then
    bif lim ((List.length out)+1) then
     rec (out++[wu8 (Int.tmod (Z8o (Int.tdiv n_ r)) 256)]) (Z8o (i-1))
    else none
   else none
 else
  k0 out
noncomputable def j5A (n_:Int):((List Int)×Int)->((List Int)×Int->Res)->(((List Int)->Res))->Res:=λv rec q=>j2i n_ v.1 v.2 (λout i=>rec (out,i)) q
noncomputable def j3o (n_:Int) (n:Nat) (out:List Int) (i:Int) (k0:(List Int)->Res):Res:=Z14 (j5A n_) n (out,i) (k0)
noncomputable def j6w:Z1q Unit:=λσ k=>rdN σ 45<|rdI σ 1 λn_=>rd1 σ 8 y0 .O λout=>rdI σ 9 λi=>j3o n_ Z12 out i (λ(out1:List Int)=>k (.exit 0) (mkS 45 45 [(8,v1 y0 out1 .O)] []))
theorem jbt {W0:Base} {M:Nat->Prop} (hnp:W0.np<=0):Z22 Try.prog W0 M (cAt 122 (bo Try.f161)) j6w:=j0b follows j01 (Z8K j7k Z94) hnp [j4h] oN [1,8,9] [] ([],[]) [(0,[8],[])] ([],[]) λσ k _ h=>rN h λhn h=>rV h λn_ h1 h=>rV h λout h8 h=>rV h λi h9 h=>⟨_,Z9m (m:=45) hn (sC h1 (sC h8 (sC h9 sN))) bN,.trans (Z88 (λv:(List Int)×Int=>(mkS 45 45 [(1,vI n_),(8,v1 y0 v.1 .O),(9,vI v.2)] [])) (j5A n_) (λ(k:Z6O Unit)=>(((λ(out1:List Int)=>k (.exit 0) (mkS 45 45 [(8,v1 y0 out1 .O)] []))):((List Int)->Res))) (λv rec k=>by kernel_rfl) Z12 (out,i) k) h⟩
noncomputable def j0e (b:List Int) (n_:Int) (size:Int) (k0:(List Int)->Bool->Res):Res:=
 j3p n_ size λ(t:Bool)=>
  bif t then
   k0 [] false
  else
   bif lim (0+(List.length b)) then
    j3o n_ Z12 b (Z8o (size-1)) λ(out:List Int)=>
     k0 out true
   else none
noncomputable def j2A:Sig Unit:=⟨[.borrow y0 false,.borrow tI false,.borrow tI false],[false,false],λvals ext k=>av vals y0 λb vals=>av vals tI λn_ vals=>av vals tI λsize vals=>nl vals<|nl ext<|j0e b n_ size (λ(r0:List Int) (r1:Bool)=>k [w1 y0 r0 .O,wB r1] [] [])⟩
theorem j9s:Z1p Try.prog 161 j2A:=j04 (np:=0) follows j01 (Z8K j7k Z94) [j4h,j6w] (oI 12 0 (jbu) (oI 122 1 (jbt) oN)) false Try.func161 λ_ _ k _ h=>aV h λ_ _ _ _ _ h=>aV h λ_ _ _ _ _ h=>aV h λ_ _ _ _ _ h=>nL h λ_ h=>nL h λ_ h=>by subst_vars;exact .trans (by delta j0e j4h j6w;refine gz j3p λ_ e=> ?_;rewrite [<-e];refine gz j3o λ_ e=> ?_;rewrite [<-e];kernel_rfl) h
theorem j8o:Fns Try.prog [(161,j2A),(190,j6i)]:=(Z8K j9s (Z8K j5V Z94))
noncomputable def j2k (n_:Int) (sign:Int) (t29:Bool) (k0:Int->Int->Res):Res:=
 bif t29 then
  k0 (Z8o (0-n_)) 1
 else
  k0 n_ sign
noncomputable def j5d:Z1q Unit:=λσ k=>rdN σ 54<|rd1 σ 4 y0 .O λb=>rdI σ 5 λn_=>rdV σ 6 (.int .u8) false [] λsign=>rdO σ 29 λt29=>j2k n_ sign t29 (λ(n_1:Int) (sign1:Int)=>k .normal (mkS 54 54 [(4,v1 y0 b .O),(5,vI n_1),(6,.val ⟨(.int .u8),false,sign1,[]⟩)] []))
theorem jag {W0:Base} {M:Nat->Prop} (hnp:W0.np<=0):Z22 Try.prog W0 M (cAt 31469 (bo Try.f153)) j5d:=j2s follows j01 j8o hnp [] oN ([4,5,6],[]) [] ([],[]) λσ k _ h=>rN h λhn h=>rV h λb h4 h=>rV h λn_ h5 h=>rV h λsign h6 h=>rV h λt29 h29 h=>⟨_,Z9m (m:=54) hn (sC h4 (sC h5 (sC h6 (sC h29 sN)))) bN,.trans (by kernel_rfl) h⟩
noncomputable def j1L (v_:Int×Int×qB) (k0:(List Int)->Bool->Res):Res:=
 j2X v_ λ(r:Bool)=>
  bif !r then
   k0 [] false
  else
   bif (v_.1==1) then
    k0 [wu8 v_.1,wu8 v_.2.1] true
   else
    bif (v_.1==2) then
     j2k v_.2.1 0 (decide (v_.2.1<0)) λ(n_:Int) (sign:Int)=>
      j0e [wu8 v_.1,sign] n_ 6 λ(r1:List Int) (r2:Bool)=>
       k0 r1 r2
    else
     bif (v_.1==3) then
      Z6T
       (Z6T
        (bif lim (ByteArray.size v_.2.2) then
         bif lim (2+(List.length (Z1e v_.2.2))) then
          k0 ([wu8 v_.1,wu8 (nI (ByteArray.size v_.2.2))]++(Z1e v_.2.2)) true
         else none
        else none)
        (bif lim (ByteArray.size v_.2.2) then
         bif lim (2+(List.length (Z1e v_.2.2))) then
          k0 ([wu8 v_.1,wu8 (nI (ByteArray.size v_.2.2))]++(Z1e v_.2.2)) true
         else none
        else none))
       (bif lim (ByteArray.size v_.2.2) then
        bif lim (2+(List.length (Z1e v_.2.2))) then
         k0 ([wu8 v_.1,wu8 (nI (ByteArray.size v_.2.2))]++(Z1e v_.2.2)) true
        else none
       else none)
     else
      k0 [wu8 v_.1] true
noncomputable def j6h:Sig Unit:=⟨[.borrow y2 true],[false,false],λvals ext k=>av vals y2 λv_ vals=>nl vals<|nl ext<|j1L v_ (λ(r0:List Int) (r1:Bool)=>k [w1 y0 r0 .O,wB r1] [] [])⟩
theorem j5U:Z1p Try.prog 153 j6h:=j04 (np:=0) follows j01 j8o [j5d] (oI 31469 0 (jag) oN) false Try.func153 λ_ _ k _ h=>aV h λ_ _ _ _ _ h=>nL h λ_ h=>nL h λ_ h=>by subst_vars;exact .trans (by delta j1L j6i j5d j2A;refine gz j2X λ_ e=> ?_;rewrite [<-e];refine gz j2k λ_ e=> ?_;rewrite [<-e];refine gz j0e λ_ e=> ?_;rewrite [<-e];kernel_rfl) h
noncomputable def j1A (t16:List qV) (t17:Int) (b:List Int) (t18:Int) (rec:(List Int)->Int->Res) (k0:(List Int)->Res) (k1:Unit->Res):Res:=
 bif decide (t18<t17) then
  bif inb t18 (List.length t16) then
   j1L (nth (0,0,eS) t16 t18) λ(r:List Int) (r1:Bool)=>
    bif !r1 then
     k1 ()
    else
     bif lim ((List.length b)+(List.length r)) then
      rec (b++r) (Z8o (t18+1))
     else none
  else none
 else
  k0 b
noncomputable def j4u (t16:List qV) (t17:Int):((List Int)×Int)->((List Int)×Int->Res)->(((List Int)->Res)×(Unit->Res))->Res:=λv rec q=>j1A t16 t17 v.1 v.2 (λb t18=>rec (b,t18)) q.1 q.2
noncomputable def j5B (t16:List qV) (t17:Int) (n:Nat) (b:List Int) (t18:Int) (k0:(List Int)->Res) (k1:Unit->Res):Res:=Z14 (j4u t16 t17) n (b,t18) (k0,k1)
noncomputable def j7C:Z1q Unit:=λσ k=>rdN σ 34<|rd1 σ 4 y0 .O λb=>rd1 σ 16 y3 .S λt16=>rdI σ 17 λt17=>rdI σ 18 λt18=>j5B t16 t17 Z12 b t18 (λ(b1:List Int)=>k (.exit 0) (mkS 34 34 [(4,v1 y0 b1 .O)] [])) (λ(_:Unit)=>k .ret (mkS 34 34 [(2,v1 y0 [] .O),(3,vB false)] []))
theorem jaf {W0:Base} {M:Nat->Prop} (hnp:W0.np<=0):Z22 Try.prog W0 M (cAt 122 (bo Try.f105)) j7C:=j0b follows j01 (Z8K j5U Z94) hnp [] oN [4,16,17,18] [] ([],[]) [(0,[4],[])] ([2,3],[]) λσ k _ h=>rN h λhn h=>rV h λb h4 h=>rV h λt16 h16 h=>rV h λt17 h17 h=>rV h λt18 h18 h=>⟨_,Z9m (m:=34) hn (sC h4 (sC h16 (sC h17 (sC h18 sN)))) bN,.trans (Z88 (λv:(List Int)×Int=>(mkS 34 34 [(4,v1 y0 v.1 .O),(16,v1 y3 t16 .S),(17,vI t17),(18,vI v.2)] [])) (j4u t16 t17) (λ(k:Z6O Unit)=>(((λ(b1:List Int)=>k (.exit 0) (mkS 34 34 [(4,v1 y0 b1 .O)] [])),(λ(_:Unit)=>k .ret (mkS 34 34 [(2,v1 y0 [] .O),(3,vB false)] []))):((List Int)->Res)×(Unit->Res))) (λv rec k=>by kernel_rfl) Z12 (b,t18) k) h⟩
noncomputable def j2D (l:List qV) (k0:(List Int)->Bool->Res):Res:=
 bif decide ((nI (List.length l))>8) then
  k0 [] false
 else
  j5B l (nI (List.length l)) Z12 [wu8 (nI (List.length l))] 0
   (λ(b:List Int)=>
    k0 b true)
   (λ(_:Unit)=>
    k0 [] false)
noncomputable def j8y:Sig Unit:=⟨[.borrow y3 false],[false,false],λvals ext k=>av vals y3 λl vals=>nl vals<|nl ext<|j2D l (λ(r0:List Int) (r1:Bool)=>k [w1 y0 r0 .O,wB r1] [] [])⟩
theorem jb8:Z1p Try.prog 105 j8y:=j04 (np:=0) follows j01 (Z8K j5U Z94) [j7C] (oI 122 0 (jaf) oN) false Try.func105 λ_ _ k _ h=>aV h λ_ _ _ _ _ h=>nL h λ_ h=>nL h λ_ h=>by subst_vars;exact .trans (by kernel_rfl) h
noncomputable def j4v (x:Bool) (k0:Int->Res):Res:=
 bif x then
  k0 1
 else
  k0 0
noncomputable def j6V:Sig Unit:=⟨[.look .bool false],[false],λvals ext k=>av vals .bool λx vals=>nl vals<|nl ext<|j4v x (λ(r0:Int)=>k [⟨(.int .u8),false,r0,[]⟩] [] [])⟩
theorem jbV:Z1p Try.prog 154 j6V:=j04 (np:=0) follows j01 Z94 [] oN false Try.func154 λ_ _ k _ h=>aV h λ_ _ _ _ _ h=>nL h λ_ h=>nL h λ_ h=>by subst_vars;exact .trans (by kernel_rfl) h
theorem j7j:Fns Try.prog [(104,j3l),(153,j6h),(154,j6V)]:=(Z8K j4E (Z8K j5U (Z8K jbV Z94)))
noncomputable def j1s (t22:List qC) (t23:Int) (b:List Int) (t24:Int) (rec:(List Int)->Int->Res) (k0:(List Int)->Res):Res:=
 bif decide (t24<t23) then
  bif inb t24 (List.length t22) then
   j0v b (nth (eS,0,false,false,0,0,eS) t22 t24).1 λ(r:List Int)=>
    j4v (nth (eS,0,false,false,0,0,eS) t22 t24).2.2.1 λ(r1:Int)=>
     j4v (nth (eS,0,false,false,0,0,eS) t22 t24).2.2.2.1 λ(r2:Int)=>
      bif lim ((List.length r)+3) then
       j1L (nth (eS,0,false,false,0,0,eS) t22 t24).2.2.2.2 λ(r3:List Int) (r4:Bool)=>
        bif lim ((List.length (r++[wu8 (nth (eS,0,false,false,0,0,eS) t22 t24).2.1,r1,r2]))+(List.length r3)) then
         rec ((r++[wu8 (nth (eS,0,false,false,0,0,eS) t22 t24).2.1,r1,r2])++r3) (Z8o (t24+1))
        else none
      else none
  else none
 else
  k0 b
noncomputable def j3J (t22:List qC) (t23:Int):((List Int)×Int)->((List Int)×Int->Res)->(((List Int)->Res))->Res:=λv rec q=>j1s t22 t23 v.1 v.2 (λb t24=>rec (b,t24)) q
noncomputable def j3s (t22:List qC) (t23:Int) (n:Nat) (b:List Int) (t24:Int) (k0:(List Int)->Res):Res:=Z14 (j3J t22 t23) n (b,t24) (k0)
noncomputable def j4i:Z1q Unit:=λσ k=>rdN σ 78<|rd1 σ 0 y0 .O λb=>rdT σ 3 (pB 3)<|rd1 σ 22 y8 .S λt22=>rdI σ 23 λt23=>rdI σ 24 λt24=>rdB σ 3 y14 [.S,.S] λa d=>j3s t22 t23 Z12 b t24 (λ(b1:List Int)=>k (.exit 0) (mkS 78 78 [(0,v1 y0 b1 .O),(3,pB 3)] [(3,⟨y14,a,d,[.S,.S]⟩)]))
theorem jbx {W0:Base} {M:Nat->Prop} (hnp:W0.np<=0):Z22 Try.prog W0 M (cAt 58 (bo Try.f106)) j4i:=j0b follows j01 j7j hnp [] oN [0,3,22,23,24] [3] ([],[]) [(0,[0,3],[3])] ([],[]) λσ k _ h=>rN h λhn h=>rV h λb h0 h=>rT h λh3 h=>rV h λt22 h22 h=>rV h λt23 h23 h=>rV h λt24 h24 h=>rB h λa d hb3 h=>⟨_,Z9m (m:=78) hn (sC h0 (sC h3 (sC h22 (sC h23 (sC h24 sN))))) (bC hb3 bN),.trans (Z88 (λv:(List Int)×Int=>(mkS 78 78 [(0,v1 y0 v.1 .O),(3,pB 3),(22,v1 y8 t22 .S),(23,vI t23),(24,vI v.2)] [(3,⟨y14,a,d,[.S,.S]⟩)])) (j3J t22 t23) (λ(k:Z6O Unit)=>(((λ(b1:List Int)=>k (.exit 0) (mkS 78 78 [(0,v1 y0 b1 .O),(3,pB 3)] [(3,⟨y14,a,d,[.S,.S]⟩)]))):((List Int)->Res))) (λv rec k=>by delta j3J j1s j3l j6V j6h;refine gz j0v λ_ e=> ?_;rewrite [<-e];refine gz j4v λ_ e=> ?_;rewrite [<-e];refine gz j1L λ_ e=> ?_;rewrite [<-e];kernel_rfl) Z12 (b,t24) k) h⟩
noncomputable def j2m (t61:qL) (t62:Int) (b:List Int) (t63:Int) (rec:(List Int)->Int->Res) (k0:(List Int)->Res):Res:=
 bif decide (t63<t62) then
  bif inb t63 (List.length t61) then
   j0v b (nth eS t61 t63) λ(r:List Int)=>
    rec r (Z8o (t63+1))
  else none
 else
  k0 b
noncomputable def j5E (t61:qL) (t62:Int):((List Int)×Int)->((List Int)×Int->Res)->(((List Int)->Res))->Res:=λv rec q=>j2m t61 t62 v.1 v.2 (λb t63=>rec (b,t63)) q
noncomputable def j3t (t61:qL) (t62:Int) (n:Nat) (b:List Int) (t63:Int) (k0:(List Int)->Res):Res:=Z14 (j5E t61 t62) n (b,t63) (k0)
noncomputable def j6y:Z1q Unit:=λσ k=>rdN σ 78<|rd1 σ 0 y0 .O λb=>rdT σ 3 (pB 3)<|rd1 σ 61 y9 .S λt61=>rdI σ 62 λt62=>rdI σ 63 λt63=>rdB σ 3 y14 [.S,.S] λa d=>j3t t61 t62 Z12 b t63 (λ(b1:List Int)=>k (.exit 2) (mkS 78 78 [(0,v1 y0 b1 .O),(3,pB 3)] [(3,⟨y14,a,d,[.S,.S]⟩)]))
theorem jby {W0:Base} {M:Nat->Prop} (hnp:W0.np<=0):Z22 Try.prog W0 M (cAt 250 (bo Try.f106)) j6y:=j0b follows j01 j7j hnp [j4i] oN [0,3,61,62,63] [3] ([],[]) [(2,[0,3],[3])] ([],[]) λσ k _ h=>rN h λhn h=>rV h λb h0 h=>rT h λh3 h=>rV h λt61 h61 h=>rV h λt62 h62 h=>rV h λt63 h63 h=>rB h λa d hb3 h=>⟨_,Z9m (m:=78) hn (sC h0 (sC h3 (sC h61 (sC h62 (sC h63 sN))))) (bC hb3 bN),.trans (Z88 (λv:(List Int)×Int=>(mkS 78 78 [(0,v1 y0 v.1 .O),(3,pB 3),(61,v1 y9 t61 .S),(62,vI t62),(63,vI v.2)] [(3,⟨y14,a,d,[.S,.S]⟩)])) (j5E t61 t62) (λ(k:Z6O Unit)=>(((λ(b1:List Int)=>k (.exit 2) (mkS 78 78 [(0,v1 y0 b1 .O),(3,pB 3)] [(3,⟨y14,a,d,[.S,.S]⟩)]))):((List Int)->Res))) (λv rec k=>by kernel_rfl) Z12 (b,t63) k) h⟩
noncomputable def j5i (b:List Int) (d:qG) (k0:(List Int)->Res):Res:=
 bif lim ((List.length b)+2) then
  j3s d.2.2.1 (nI (List.length d.2.2.1)) Z12 (b++[wu8 d.1,wu8 (nI (List.length d.2.2.1))]) 0 λ(b1:List Int)=>
   bif lim ((List.length b1)+1) then
    j3t d.2.2.2.1 (nI (List.length d.2.2.2.1)) Z12 (b1++[wu8 (nI (List.length d.2.2.2.1))]) 0 λ(b2:List Int)=>
     j0v b2 d.2.2.2.2.1 λ(r:List Int)=>
      j0v r d.2.2.2.2.2 λ(r1:List Int)=>
       k0 r1
   else none
 else none
noncomputable def j9v:Sig Unit:=⟨[.eat y0 false,.borrow y14 true],[false],λvals ext k=>ao vals y0 [.O] λb vals=>av vals y14 λd vals=>nl vals<|nl ext<|j5i b d (λ(r0:List Int)=>k [w1 y0 r0 .O] [] [])⟩
theorem jcG:Z1p Try.prog 106 j9v:=j04 (np:=0) follows j01 j7j [j4i,j6y] (oI 58 0 (jbx) (oI 250 1 (jby) oN)) false Try.func106 λ_ _ k _ h=>aO h λ_ _ _ _ h=>aV h λ_ _ _ _ _ h=>nL h λ_ h=>nL h λ_ h=>by subst_vars;exact .trans (by delta j5i j4i j6y j3l;refine gz j3s λ_ e=> ?_;rewrite [<-e];refine gz j3t λ_ e=> ?_;rewrite [<-e];refine gz j0v λ_ e=> ?_;rewrite [<-e];kernel_rfl) h
noncomputable def j0w (s:qS) (k0:(List Int)->Bool->Res):Res:=
 j27 s λ(r:Bool)=>
  bif !r then
   k0 [] false
  else
   j0v [83,wu8 s.1] s.2.1 λ(r1:List Int)=>
    j2D s.2.2.1 λ(r2:List Int) (r3:Bool)=>
     j2D s.2.2.2.1 λ(r4:List Int) (r5:Bool)=>
      bif lim ((List.length r1)+(List.length r2)) then
       bif lim ((List.length (r1++r2))+(List.length r4)) then
        bif (s.1==5) then
         j5i ((r1++r2)++r4) s.2.2.2.2 λ(r6:List Int)=>
          k0 r6 true
        else
         k0 ((r1++r2)++r4) true
       else none
      else none
noncomputable def j2g:Sig Unit:=⟨[.borrow y18 true],[false,false],λvals ext k=>av vals y18 λs vals=>nl vals<|nl ext<|j0w s (λ(r0:List Int) (r1:Bool)=>k [w1 y0 r0 .O,wB r1] [] [])⟩
theorem j7T:Z1p Try.prog 45 j2g:=j04 (np:=0) follows j01 (Z8K j9t (Z8K j4E (Z8K jb8 (Z8K jcG Z94)))) [] oN false Try.func45 λ_ _ k _ h=>aV h λ_ _ _ _ _ h=>nL h λ_ h=>nL h λ_ h=>by subst_vars;exact .trans (by delta j0w j5m j3l j8y j9v;refine gz j27 λ_ e=> ?_;rewrite [<-e];refine gz j0v λ_ e=> ?_;rewrite [<-e];refine gz j2D λ_ e=> ?_;rewrite [<-e];refine gz j5i λ_ e=> ?_;rewrite [<-e];kernel_rfl) h
theorem j8n:Fns Try.prog [(41,j0c),(42,j0i),(43,j6W),(44,j7z),(45,j2g)]:=(Z8K j28 (Z8K j3e (Z8K jbW (Z8K ja1 (Z8K j7T Z94)))))
noncomputable def j2j (t28:Bool) (s:qS) (t10:List Int×Int) (k0:qS->Res):Res:=
 bif t28 then
  j2Y s.2.1 t10 λ(r:qG) (bt10:List Int×Int)=>
   k0 (s.1,s.2.1,s.2.2.1,s.2.2.2.1,r)
 else
  k0 s
noncomputable def j5c:Z1q Unit:=λσ k=>rdN σ 50<|rd1 σ 0 y0 .S λb=>rdT σ 2 (pB 2)<|rdT σ 4 (pB 10)<|rdT σ 5 (pB 5)<|rdO σ 28 λt28=>rdB σ 2 y18 [.O,.O,.O,.O] λa t2=>rdB σ 5 y18 [.O,.O,.O,.O] λa1 s=>rdB σ 10 y23 [.S] λa2 t10=>j2j t28 s t10 (λ(s1:qS)=>k .normal (mkS 50 50 [(0,v1 y0 b .S),(2,pB 2),(5,pB 5)] [(2,⟨y18,a,t2,[.O,.O,.O,.O]⟩),(5,⟨y18,a1,s1,[.O,.O,.O,.O]⟩)]))
theorem jae {W0:Base} {M:Nat->Prop} (hnp:W0.np<=0):Z22 Try.prog W0 M (cAt 509 (bo Try.f8)) j5c:=j2s follows j01 j8n hnp [] oN ([0,2,5],[2,5]) [] ([],[]) λσ k _ h=>rN h λhn h=>rV h λb h0 h=>rT h λh2 h=>rT h λh4 h=>rT h λh5 h=>rV h λt28 h28 h=>rB h λa t2 hb2 h=>rB h λa1 s hb5 h=>rB h λa2 t10 hb10 h=>⟨_,Z9m (m:=50) hn (sC h0 (sC h2 (sC h4 (sC h5 (sC h28 sN))))) (bC hb2 (bC hb5 (bC hb10 bN))),.trans (by kernel_rfl) h⟩
noncomputable def j0P (b:List Int) (k0:qS->Bool->Res):Res:=
 j00 1 (b,1) λ(r:Int) (bt10:List Int×Int)=>
  j00 1 bt10 λ(r1:Int) (bt101:List Int×Int)=>
   j02 r1 bt101 λ(r2:qB) (bt102:List Int×Int)=>
    j3u bt102 λ(r3:List qV) (bt103:List Int×Int)=>
     j3u bt103 λ(r4:List qV) (bt104:List Int×Int)=>
      j2j (r==5) (r,r2,r3,r4,0,eS,[],[],eS,eS) bt104 λ(s:qS)=>
       j0w s λ(r5:List Int) (r6:Bool)=>
        bif !r6 then
         k0 (0,eS,[],[],0,eS,[],[],eS,eS) false
        else
         bif sNe (Z34 r5) (Z34 b) then
          k0 (0,eS,[],[],0,eS,[],[],eS,eS) false
         else
          k0 s true
noncomputable def j6g:Sig Unit:=⟨[.borrow y0 false],[true,false],λvals ext k=>av vals y0 λb vals=>nl vals<|nl ext<|j0P b (λ(r0:qS) (r1:Bool)=>k [⟨y18,true,r0,[.O,.O,.O,.O]⟩,wB r1] [] [])⟩
theorem jb7:Z1p Try.prog 8 j6g:=j04 (np:=0) follows j01 j8n [j5c] (oI 509 0 (jae) oN) false Try.func8 λ_ _ k _ h=>aV h λ_ _ _ _ _ h=>nL h λ_ h=>nL h λ_ h=>by subst_vars;exact .trans (by delta j0P j0c j0i j6W j5c j2g;refine gz j00 λ_ e=> ?_;rewrite [<-e];refine gz j02 λ_ e=> ?_;rewrite [<-e];refine gz j3u λ_ e=> ?_;rewrite [<-e];refine gz j2j λ_ e=> ?_;rewrite [<-e];refine gz j0w λ_ e=> ?_;rewrite [<-e];kernel_rfl) h
noncomputable def j3X (t6:List Int) (t7:Int) (n_:Int) (t8:Int) (rec:Int->Int->Res) (k0:Int->Res):Res:=
 bif decide (t8<t7) then
  bif inb t8 (List.length t6) then
   rec (Int.tmod (Z8o ((Z8o ((Z8o (257 * n_))+(Z8o (nth 0 t6 t8))))+1)) 16777213) (Z8o (t8+1))
  else none
 else
  k0 n_
noncomputable def j7s (t6:List Int) (t7:Int):(Int×Int)->(Int×Int->Res)->((Int->Res))->Res:=λv rec q=>j3X t6 t7 v.1 v.2 (λn_ t8=>rec (n_,t8)) q
noncomputable def j8O (t6:List Int) (t7:Int) (n:Nat) (n_:Int) (t8:Int) (k0:Int->Res):Res:=Z14 (j7s t6 t7) n (n_,t8) (k0)
noncomputable def j9V:Z1q Unit:=λσ k=>rdN σ 21<|rdI σ 3 λn_=>rd1 σ 6 y0 .S λt6=>rdI σ 7 λt7=>rdI σ 8 λt8=>j8O t6 t7 Z12 n_ t8 (λ(n_1:Int)=>k (.exit 0) (mkS 21 21 [(3,vI n_1)] []))
theorem jdj {W0:Base} {M:Nat->Prop} (hnp:W0.np<=0):Z22 Try.prog W0 M (cAt 58 (bo Try.f163)) j9V:=j0b follows j01 Z94 hnp [] oN [3,6,7,8] [] ([],[]) [(0,[3],[])] ([],[]) λσ k _ h=>rN h λhn h=>rV h λn_ h3 h=>rV h λt6 h6 h=>rV h λt7 h7 h=>rV h λt8 h8 h=>⟨_,Z9m (m:=21) hn (sC h3 (sC h6 (sC h7 (sC h8 sN)))) bN,.trans (Z88 (λv:Int×Int=>(mkS 21 21 [(3,vI v.1),(6,v1 y0 t6 .S),(7,vI t7),(8,vI v.2)] [])) (j7s t6 t7) (λ(k:Z6O Unit)=>(((λ(n_1:Int)=>k (.exit 0) (mkS 21 21 [(3,vI n_1)] []))):(Int->Res))) (λv rec k=>by kernel_rfl) Z12 (n_,t8) k) h⟩
noncomputable def j5C (b:List Int) (k0:Int->Res):Res:=
 j8O b (nI (List.length b)) Z12 1 0 λ(n_:Int)=>
  k0 n_
noncomputable def j9b:Sig Unit:=⟨[.look y0 false],[false],λvals ext k=>av vals y0 λb vals=>nl vals<|nl ext<|j5C b (λ(r0:Int)=>k [wI r0] [] [])⟩
theorem jdN:Z1p Try.prog 163 j9b:=j04 (np:=0) follows j01 Z94 [j9V] (oI 58 0 (jdj) oN) false Try.func163 λ_ _ k _ h=>aV h λ_ _ _ _ _ h=>nL h λ_ h=>nL h λ_ h=>by subst_vars;exact .trans (by kernel_rfl) h
noncomputable def j2b (t34:List Int) (t35:Int) (n_:Int) (t36:Int) (rec:Int->Int->Res) (k0:Int->Res):Res:=
 bif decide (t36<t35) then
  bif inb t36 (List.length t34) then
   rec (orI .i64 (Z9u .i64 n_ 8) (Z8o (nth 0 t34 t36))) (Z8o (t36+1))
  else none
 else
  k0 n_
noncomputable def j5p (t34:List Int) (t35:Int):(Int×Int)->(Int×Int->Res)->((Int->Res))->Res:=λv rec q=>j2b t34 t35 v.1 v.2 (λn_ t36=>rec (n_,t36)) q
noncomputable def j4H (t34:List Int) (t35:Int) (n:Nat) (n_:Int) (t36:Int) (k0:Int->Res):Res:=Z14 (j5p t34 t35) n (n_,t36) (k0)
noncomputable def j6p:Z1q Unit:=λσ k=>rdN σ 47<|rdI σ 8 λn_=>rd1 σ 34 y0 .S λt34=>rdI σ 35 λt35=>rdI σ 36 λt36=>j4H t34 t35 Z12 n_ t36 (λ(n_1:Int)=>k (.exit 0) (mkS 47 47 [(8,vI n_1)] []))
theorem jbk {W0:Base} {M:Nat->Prop} (hnp:W0.np<=0):Z22 Try.prog W0 M (cAt 122 (bo Try.f107)) j6p:=j0b follows j01 (Z8K j0M Z94) hnp [] oN [8,34,35,36] [] ([],[]) [(0,[8],[])] ([],[]) λσ k _ h=>rN h λhn h=>rV h λn_ h8 h=>rV h λt34 h34 h=>rV h λt35 h35 h=>rV h λt36 h36 h=>⟨_,Z9m (m:=47) hn (sC h8 (sC h34 (sC h35 (sC h36 sN)))) bN,.trans (Z88 (λv:Int×Int=>(mkS 47 47 [(8,vI v.1),(34,v1 y0 t34 .S),(35,vI t35),(36,vI v.2)] [])) (j5p t34 t35) (λ(k:Z6O Unit)=>(((λ(n_1:Int)=>k (.exit 0) (mkS 47 47 [(8,vI n_1)] []))):(Int->Res))) (λv rec k=>by kernel_rfl) Z12 (n_,t36) k) h⟩
noncomputable def j5g (b:List Int) (at_:Int) (size:Int) (k0:Int->Bool->Res):Res:=
 j0a size 1 6 λ(r:Bool)=>
  bif !r then
   k0 0 false
  else
   j0a at_ 0 (nI (List.length b)) λ(r1:Bool)=>
    bif !r1 then
     k0 0 false
    else
     bif decide ((Z8o ((nI (List.length b))-at_))<size) then
      k0 0 false
     else
      bif Z6Z at_ (Z8o (at_+size)) (List.length b) then
       j4H (sub b at_ (Z8o (at_+size))) (nI (List.length (sub b at_ (Z8o (at_+size))))) Z12 0 0 λ(n_:Int)=>
        k0 n_ true
      else none
noncomputable def jcM:Sig Unit:=⟨[.look y0 false,.look tI false,.look tI false],[false,false],λvals ext k=>av vals y0 λb vals=>av vals tI λat_ vals=>av vals tI λsize vals=>nl vals<|nl ext<|j5g b at_ size (λ(r0:Int) (r1:Bool)=>k [wI r0,wB r1] [] [])⟩
theorem jcA:Z1p Try.prog 107 jcM:=j04 (np:=0) follows j01 (Z8K j0M Z94) [j6p] (oI 122 0 (jbk) oN) false Try.func107 λ_ _ k _ h=>aV h λ_ _ _ _ _ h=>aV h λ_ _ _ _ _ h=>aV h λ_ _ _ _ _ h=>nL h λ_ h=>nL h λ_ h=>by subst_vars;exact .trans (by delta j5g j0E j6p;refine gz j0a λ_ e=> ?_;rewrite [<-e];refine gz j4H λ_ e=> ?_;rewrite [<-e];kernel_rfl) h
noncomputable def j05 (size:Int) (e0:List Int×Int×Bool) (k0:Int->(List Int×Int×Bool)->Res):Res:=
 j5g e0.1 e0.2.1 size λ(r:Int) (r1:Bool)=>
  bif e0.2.2 then
   k0 0 (e0.1,e0.2.1,true)
  else
   bif !r1 then
    k0 0 (e0.1,e0.2.1,true)
   else
    k0 r (e0.1,Z8o (e0.2.1+size),e0.2.2)
noncomputable def j0j:Sig Unit:=⟨[.ptr y25,.borrow tI false],[false],λvals ext k=>av vals tI λsize vals=>nl vals<|ab ext y25 [.S] λa e0 ext=>nl ext<|j05 size e0 (λ(r0:Int) (x0:List Int×Int×Bool)=>k [wI r0] [] [⟨y25,a,x0,[.S]⟩])⟩
theorem j2G:Z1p Try.prog 46 j0j:=j04 (np:=0) follows j01 (Z8K jcA Z94) [] oN false Try.func46 λ_ _ k _ h=>aV h λ_ _ _ _ _ h=>nL h λ_ h=>aB h λ_ _ _ _ h=>nL h λ_ h=>by subst_vars;exact .trans (by kernel_rfl) h
noncomputable def j06 (most:Int) (e0:List Int×Int×Bool) (k0:Int->(List Int×Int×Bool)->Res):Res:=
 j05 1 e0 λ(r:Int) (bt19:List Int×Int×Bool)=>
  bif decide (r>most) then
   k0 0 (bt19.1,bt19.2.1,true)
  else
   bif bt19.2.2 then
    k0 0 bt19
   else
    k0 r bt19
noncomputable def j0u:Sig Unit:=⟨[.ptr y25,.borrow tI false],[false],λvals ext k=>av vals tI λmost vals=>nl vals<|ab ext y25 [.S] λa e0 ext=>nl ext<|j06 most e0 (λ(r0:Int) (x0:List Int×Int×Bool)=>k [wI r0] [] [⟨y25,a,x0,[.S]⟩])⟩
theorem j3x:Z1p Try.prog 49 j0u:=j04 (np:=0) follows j01 (Z8K j2G Z94) [] oN false Try.func49 λ_ _ k _ h=>aV h λ_ _ _ _ _ h=>nL h λ_ h=>aB h λ_ _ _ _ h=>nL h λ_ h=>by subst_vars;exact .trans (by kernel_rfl) h
noncomputable def j0f (n_:Int) (e0:List Int×Int×Bool) (k0:(List Int)->(List Int×Int×Bool)->Res):Res:=
 bif e0.2.2 then
  k0 [] (e0.1,e0.2.1,true)
 else
  bif decide (n_>(Z8o ((nI (List.length e0.1))-e0.2.1))) then
   k0 [] (e0.1,e0.2.1,true)
  else
   bif Z6Z (Z8o ((Z8o (e0.2.1+n_))-n_)) (Z8o (e0.2.1+n_)) (List.length e0.1) then
    k0 (sub e0.1 (Z8o ((Z8o (e0.2.1+n_))-n_)) (Z8o (e0.2.1+n_))) (e0.1,Z8o (e0.2.1+n_),e0.2.2)
   else none
noncomputable def j3E:Sig Unit:=⟨[.ptr y25,.borrow tI false],[false],λvals ext k=>av vals tI λn_ vals=>nl vals<|ab ext y25 [.S] λa e0 ext=>nl ext<|j0f n_ e0 (λ(r0:List Int) (x0:List Int×Int×Bool)=>k [w1 y0 r0 .S] [] [⟨y25,a,x0,[.S]⟩])⟩
theorem j7R:Z1p Try.prog 108 j3E:=j04 (np:=0) follows j01 Z94 [] oN true Try.func108 λ_ _ k _ h=>aV h λ_ _ _ _ _ h=>nL h λ_ h=>aB h λ_ _ _ _ h=>nL h λ_ h=>by subst_vars;exact .trans (by kernel_rfl) h
noncomputable def j08 (e0:List Int×Int×Bool) (k0:qB->(List Int×Int×Bool)->Res):Res:=
 j05 1 e0 λ(r:Int) (bt10:List Int×Int×Bool)=>
  j0f r bt10 λ(r1:List Int) (bt101:List Int×Int×Bool)=>
   k0 (Z34 r1) bt101
noncomputable def j0C:Sig Unit:=⟨[.ptr y25],[false],λvals ext k=>nl vals<|ab ext y25 [.S] λa e0 ext=>nl ext<|j08 e0 (λ(r0:qB) (x0:List Int×Int×Bool)=>k [wS r0] [] [⟨y25,a,x0,[.S]⟩])⟩
theorem j5o:Z1p Try.prog 47 j0C:=j04 (np:=0) follows j01 (Z8K j2G (Z8K j7R Z94)) [] oN false Try.func47 λ_ _ k _ h=>nL h λ_ h=>aB h λ_ _ _ _ h=>nL h λ_ h=>by subst_vars;exact .trans (by delta j08 j0j j3E;refine gz j05 λ_ e=> ?_;rewrite [<-e];refine gz j0f λ_ e=> ?_;rewrite [<-e];kernel_rfl) h
theorem j8k:Fns Try.prog [(46,j0j),(47,j0C)]:=(Z8K j2G (Z8K j5o Z94))
noncomputable def j0t (t9:Int) (v_:Int×Int×qB) (e0:List Int×Int×Bool) (k0:qV->(List Int×Int×Bool)->Res):Res:=
 bif (t9==1) then
  j05 1 e0 λ(r:Int) (bt34:List Int×Int×Bool)=>
   k0 (v_.1,r,v_.2.2) bt34
 else
  bif (t9==2) then
   j05 1 e0 λ(r1:Int) (bt341:List Int×Int×Bool)=>
    j05 6 bt341 λ(r2:Int) (bt342:List Int×Int×Bool)=>
     bif (r1==1) then
      k0 (v_.1,Z8o (0-r2),v_.2.2) bt342
     else
      k0 (v_.1,r2,v_.2.2) bt342
  else
   bif (t9==3) then
    j08 e0 λ(r3:qB) (bt343:List Int×Int×Bool)=>
     k0 (v_.1,v_.2.1,r3) bt343
   else
    k0 v_ e0
noncomputable def j59:Z1q Unit:=λσ k=>rdN σ 34<|rdT σ 0 (pB 34)<|rdT σ 2 (pB 2)<|rdT σ 3 (pB 3)<|rdI σ 9 λt9=>rdB σ 2 y2 [] λa t2=>rdB σ 3 y2 [] λa1 v_=>rdB σ 34 y25 [.S] λa2 e0=>j0t t9 v_ e0 (λ(v_1:Int×Int×qB) (e01:List Int×Int×Bool)=>k .normal (mkS 34 35 [(2,pB 2),(3,pB 3)] [(2,⟨y2,a,t2,[]⟩),(3,⟨y2,a1,v_1,[]⟩),(34,⟨y25,a2,e01,[.S]⟩)]))
theorem ja9 {W0:Base} {M:Nat->Prop} (hnp:W0.np<=0):Z22 Try.prog W0 M (cAt 29 (bo Try.f50)) j59:=j2s follows j01 j8k hnp [] oN ([2,3],[2,3,34]) [] ([],[]) λσ k _ h=>rN h λhn h=>rT h λh0 h=>rT h λh2 h=>rT h λh3 h=>rV h λt9 h9 h=>rB h λa t2 hb2 h=>rB h λa1 v_ hb3 h=>rB h λa2 e0 hb34 h=>⟨_,Z9m (m:=35) hn (sC h0 (sC h2 (sC h3 (sC h9 sN)))) (bC hb2 (bC hb3 (bC hb34 bN))),.trans (by delta j0t j0j j0C;refine gz j05 λ_ e=> ?_;rewrite [<-e];refine gz j08 λ_ e=> ?_;rewrite [<-e];kernel_rfl) h⟩
noncomputable def j0D (e0:List Int×Int×Bool) (k0:qV->(List Int×Int×Bool)->Res):Res:=
 j05 1 e0 λ(r:Int) (bt34:List Int×Int×Bool)=>
  j0t r (r,0,eS) bt34 λ(v_:Int×Int×qB) (e:List Int×Int×Bool)=>
   k0 v_ e
noncomputable def j4c:Sig Unit:=⟨[.ptr y25],[true],λvals ext k=>nl vals<|ab ext y25 [.S] λa e0 ext=>nl ext<|j0D e0 (λ(r0:Int×Int×qB) (x0:List Int×Int×Bool)=>k [⟨y2,true,r0,[]⟩] [] [⟨y25,a,x0,[.S]⟩])⟩
theorem j8r:Z1p Try.prog 50 j4c:=j04 (np:=0) follows j01 j8k [j59] (oI 29 0 (ja9) oN) false Try.func50 λ_ _ k _ h=>nL h λ_ h=>aB h λ_ _ _ _ h=>nL h λ_ h=>by subst_vars;exact .trans (by delta j0D j0j j59;refine gz j05 λ_ e=> ?_;rewrite [<-e];refine gz j0t λ_ e=> ?_;rewrite [<-e];kernel_rfl) h
theorem j7O:Fns Try.prog [(49,j0u),(50,j4c)]:=(Z8K j3x (Z8K j8r Z94))
noncomputable def j1h (t9:Int) (out:List qV) (t10:Int) (e0:List Int×Int×Bool) (rec:qW->Int->(List Int×Int×Bool)->Res) (k0:qW->(List Int×Int×Bool)->Res):Res:=
 bif decide (t10<t9) then
  j0D e0 λ(r:Int×Int×qB) (bt20:List Int×Int×Bool)=>
   bif lim ((List.length out)+1) then
    rec (out++[r]) (Z8o (t10+1)) bt20
   else none
 else
  k0 out e0
noncomputable def j41 (t9:Int):(qW×Int×(List Int×Int×Bool))->(qW×Int×(List Int×Int×Bool)->Res)->((qW->(List Int×Int×Bool)->Res))->Res:=λv rec q=>j1h t9 v.1 v.2.1 v.2.2 (λout t10 e0=>rec (out,t10,e0)) q
noncomputable def j4Y (t9:Int) (n:Nat) (out:List qV) (t10:Int) (e0:List Int×Int×Bool) (k0:qW->(List Int×Int×Bool)->Res):Res:=Z14 (j41 t9) n (out,t10,e0) (k0)
noncomputable def j4z:Z1q Unit:=λσ k=>rdN σ 20<|rdT σ 0 (pB 20)<|rd1 σ 3 y3 .O λout=>rdI σ 9 λt9=>rdI σ 10 λt10=>rdB σ 20 y25 [.S] λa e0=>j4Y t9 Z12 out t10 e0 (λ(out1:List qV) (e01:List Int×Int×Bool)=>k (.exit 0) (mkS 20 21 [(3,v1 y3 out1 .O)] [(20,⟨y25,a,e01,[.S]⟩)]))
theorem j9N {W0:Base} {M:Nat->Prop} (hnp:W0.np<=0):Z22 Try.prog W0 M (cAt 122 (bo Try.f48)) j4z:=j0b follows j01 j7O hnp [] oN [0,3,9,10] [20] ([],[]) [(0,[3],[20])] ([],[]) λσ k _ h=>rN h λhn h=>rT h λh0 h=>rV h λout h3 h=>rV h λt9 h9 h=>rV h λt10 h10 h=>rB h λa e0 hb20 h=>⟨_,Z9m (m:=21) hn (sC h0 (sC h3 (sC h9 (sC h10 sN)))) (bC hb20 bN),.trans (Z88 (λv:qW×Int×(List Int×Int×Bool)=>(mkS 20 21 [(0,pB 20),(3,v1 y3 v.1 .O),(9,vI t9),(10,vI v.2.1)] [(20,⟨y25,a,v.2.2,[.S]⟩)])) (j41 t9) (λ(k:Z6O Unit)=>(((λ(out1:List qV) (e01:List Int×Int×Bool)=>k (.exit 0) (mkS 20 21 [(3,v1 y3 out1 .O)] [(20,⟨y25,a,e01,[.S]⟩)]))):(qW->(List Int×Int×Bool)->Res))) (λv rec k=>by kernel_rfl) Z12 (out,t10,e0) k) h⟩
noncomputable def j29 (e0:List Int×Int×Bool) (k0:qW->(List Int×Int×Bool)->Res):Res:=
 j06 8 e0 λ(r:Int) (bt20:List Int×Int×Bool)=>
  j4Y r Z12 [] 0 bt20 λ(out:List qV) (e:List Int×Int×Bool)=>
   k0 out e
noncomputable def j5x:Sig Unit:=⟨[.ptr y25],[false],λvals ext k=>nl vals<|ab ext y25 [.S] λa e0 ext=>nl ext<|j29 e0 (λ(r0:List qV) (x0:List Int×Int×Bool)=>k [w1 y3 r0 .O] [] [⟨y25,a,x0,[.S]⟩])⟩
theorem jat:Z1p Try.prog 48 j5x:=j04 (np:=0) follows j01 j7O [j4z] (oI 122 0 (j9N) oN) false Try.func48 λ_ _ k _ h=>nL h λ_ h=>aB h λ_ _ _ _ h=>nL h λ_ h=>by subst_vars;exact .trans (by delta j29 j0u j4z;refine gz j06 λ_ e=> ?_;rewrite [<-e];refine gz j4Y λ_ e=> ?_;rewrite [<-e];kernel_rfl) h
theorem j7u:Fns Try.prog [(47,j0C),(49,j0u)]:=(Z8K j5o (Z8K j3x Z94))
noncomputable def j12 (t9:Int) (out:qL) (t10:Int) (e0:List Int×Int×Bool) (rec:qL->Int->(List Int×Int×Bool)->Res) (k0:qL->(List Int×Int×Bool)->Res):Res:=
 bif decide (t10<t9) then
  j08 e0 λ(r:qB) (bt20:List Int×Int×Bool)=>
   bif lim ((List.length out)+1) then
    rec (out++[r]) (Z8o (t10+1)) bt20
   else none
 else
  k0 out e0
noncomputable def j3C (t9:Int):(qL×Int×(List Int×Int×Bool))->(qL×Int×(List Int×Int×Bool)->Res)->((qL->(List Int×Int×Bool)->Res))->Res:=λv rec q=>j12 t9 v.1 v.2.1 v.2.2 (λout t10 e0=>rec (out,t10,e0)) q
noncomputable def j4l (t9:Int) (n:Nat) (out:qL) (t10:Int) (e0:List Int×Int×Bool) (k0:qL->(List Int×Int×Bool)->Res):Res:=Z14 (j3C t9) n (out,t10,e0) (k0)
noncomputable def j44:Z1q Unit:=λσ k=>rdN σ 20<|rdT σ 0 (pB 20)<|rd1 σ 3 y9 .O λout=>rdI σ 9 λt9=>rdI σ 10 λt10=>rdB σ 20 y25 [.S] λa e0=>j4l t9 Z12 out t10 e0 (λ(out1:qL) (e01:List Int×Int×Bool)=>k (.exit 0) (mkS 20 21 [(3,v1 y9 out1 .O)] [(20,⟨y25,a,e01,[.S]⟩)]))
theorem j9w {W0:Base} {M:Nat->Prop} (hnp:W0.np<=0):Z22 Try.prog W0 M (cAt 122 (bo Try.f51)) j44:=j0b follows j01 j7u hnp [] oN [0,3,9,10] [20] ([],[]) [(0,[3],[20])] ([],[]) λσ k _ h=>rN h λhn h=>rT h λh0 h=>rV h λout h3 h=>rV h λt9 h9 h=>rV h λt10 h10 h=>rB h λa e0 hb20 h=>⟨_,Z9m (m:=21) hn (sC h0 (sC h3 (sC h9 (sC h10 sN)))) (bC hb20 bN),.trans (Z88 (λv:qL×Int×(List Int×Int×Bool)=>(mkS 20 21 [(0,pB 20),(3,v1 y9 v.1 .O),(9,vI t9),(10,vI v.2.1)] [(20,⟨y25,a,v.2.2,[.S]⟩)])) (j3C t9) (λ(k:Z6O Unit)=>(((λ(out1:qL) (e01:List Int×Int×Bool)=>k (.exit 0) (mkS 20 21 [(3,v1 y9 out1 .O)] [(20,⟨y25,a,e01,[.S]⟩)]))):(qL->(List Int×Int×Bool)->Res))) (λv rec k=>by kernel_rfl) Z12 (out,t10,e0) k) h⟩
noncomputable def j0o (e0:List Int×Int×Bool) (k0:qL->(List Int×Int×Bool)->Res):Res:=
 j06 8 e0 λ(r:Int) (bt20:List Int×Int×Bool)=>
  j4l r Z12 [] 0 bt20 λ(out:qL) (e:List Int×Int×Bool)=>
   k0 out e
noncomputable def j1T:Sig Unit:=⟨[.ptr y25],[false],λvals ext k=>nl vals<|ab ext y25 [.S] λa e0 ext=>nl ext<|j0o e0 (λ(r0:qL) (x0:List Int×Int×Bool)=>k [w1 y9 r0 .O] [] [⟨y25,a,x0,[.S]⟩])⟩
theorem j7v:Z1p Try.prog 51 j1T:=j04 (np:=0) follows j01 j7u [j44] (oI 122 0 (j9w) oN) false Try.func51 λ_ _ k _ h=>nL h λ_ h=>aB h λ_ _ _ _ h=>nL h λ_ h=>by subst_vars;exact .trans (by delta j0o j0u j44;refine gz j06 λ_ e=> ?_;rewrite [<-e];refine gz j4l λ_ e=> ?_;rewrite [<-e];kernel_rfl) h
noncomputable def j3S (n_:Int) (b:List Int) (i:Int) (rec:(List Int)->Int->Res) (k0:(List Int)->Res):Res:=
 bif decide (i>=0) then
  bif !(decide ((Z8o (8 * i))<0)) then
   bif lim ((List.length b)+1) then
    rec (b++[wu8 (Z9v .i64 n_ (Z8o (8 * i)))]) (Z8o (i-1))
   else none
  else none
 else
  k0 b
noncomputable def j7n (n_:Int):((List Int)×Int)->((List Int)×Int->Res)->(((List Int)->Res))->Res:=λv rec q=>j3S n_ v.1 v.2 (λb i=>rec (b,i)) q
noncomputable def j8K (n_:Int) (n:Nat) (b:List Int) (i:Int) (k0:(List Int)->Res):Res:=Z14 (j7n n_) n (b,i) (k0)
noncomputable def j9U:Z1q Unit:=λσ k=>rdN σ 23<|rd1 σ 0 y0 .O λb=>rdI σ 1 λn_=>rdI σ 7 λi=>j8K n_ Z12 b i (λ(b1:List Int)=>k (.exit 0) (mkS 23 23 [(0,v1 y0 b1 .O)] []))
theorem jdi {W0:Base} {M:Nat->Prop} (hnp:W0.np<=0):Z22 Try.prog W0 M (cAt 26 (bo Try.f112)) j9U:=j0b follows j01 Z94 hnp [] oN [0,1,7] [] ([],[]) [(0,[0],[])] ([],[]) λσ k _ h=>rN h λhn h=>rV h λb h0 h=>rV h λn_ h1 h=>rV h λi h7 h=>⟨_,Z9m (m:=23) hn (sC h0 (sC h1 (sC h7 sN))) bN,.trans (Z88 (λv:(List Int)×Int=>(mkS 23 23 [(0,v1 y0 v.1 .O),(1,vI n_),(7,vI v.2)] [])) (j7n n_) (λ(k:Z6O Unit)=>(((λ(b1:List Int)=>k (.exit 0) (mkS 23 23 [(0,v1 y0 b1 .O)] []))):((List Int)->Res))) (λv rec k=>by kernel_rfl) Z12 (b,i) k) h⟩
noncomputable def j0d (b:List Int) (n_:Int) (size:Int) (k0:(List Int)->Res):Res:=
 j8K n_ Z12 b (Z8o (size-1)) λ(b1:List Int)=>
  k0 b1
noncomputable def j0O:Sig Unit:=⟨[.eat y0 false,.borrow tI false,.borrow tI false],[false],λvals ext k=>ao vals y0 [.O] λb vals=>av vals tI λn_ vals=>av vals tI λsize vals=>nl vals<|nl ext<|j0d b n_ size (λ(r0:List Int)=>k [w1 y0 r0 .O] [] [])⟩
theorem j4D:Z1p Try.prog 112 j0O:=j04 (np:=0) follows j01 Z94 [j9U] (oI 26 0 (jdi) oN) false Try.func112 λ_ _ k _ h=>aO h λ_ _ _ _ h=>aV h λ_ _ _ _ _ h=>aV h λ_ _ _ _ _ h=>nL h λ_ h=>nL h λ_ h=>by subst_vars;exact .trans (by kernel_rfl) h
noncomputable def j0J (b:List Int) (s:qB) (k0:(List Int)->Res):Res:=
 j0d b (nI (ByteArray.size s)) 1 λ(r:List Int)=>
  bif lim ((List.length r)+(ByteArray.size s)) then
   k0 (r++(Z1e s))
  else none
noncomputable def j3Y:Sig Unit:=⟨[.eat y0 false,.borrow .str false],[false],λvals ext k=>ao vals y0 [.O] λb vals=>av vals .str λs vals=>nl vals<|nl ext<|j0J b s (λ(r0:List Int)=>k [w1 y0 r0 .O] [] [])⟩
theorem j8E:Z1p Try.prog 110 j3Y:=j04 (np:=0) follows j01 (Z8K j4D Z94) [] oN false Try.func110 λ_ _ k _ h=>aO h λ_ _ _ _ h=>aV h λ_ _ _ _ _ h=>nL h λ_ h=>nL h λ_ h=>by subst_vars;exact .trans (by kernel_rfl) h
noncomputable def j1w (b:List Int) (is:Bool) (k0:(List Int)->Res):Res:=
 bif is then
  bif lim ((List.length b)+1) then
   k0 (b++[1])
  else none
 else
  bif lim ((List.length b)+1) then
   k0 (b++[0])
  else none
noncomputable def j79:Sig Unit:=⟨[.eat y0 false,.borrow .bool false],[false],λvals ext k=>ao vals y0 [.O] λb vals=>av vals .bool λis vals=>nl vals<|nl ext<|j1w b is (λ(r0:List Int)=>k [w1 y0 r0 .O] [] [])⟩
theorem jaj:Z1p Try.prog 114 j79:=j04 (np:=0) follows j01 Z94 [] oN false Try.func114 λ_ _ k _ h=>aO h λ_ _ _ _ h=>aV h λ_ _ _ _ _ h=>nL h λ_ h=>nL h λ_ h=>by subst_vars;exact .trans (by kernel_rfl) h
noncomputable def j5t (b:List Int) (v_:Int×Int×qB) (k0:(List Int)->Res):Res:=
 j0d b v_.1 1 λ(r:List Int)=>
  bif (v_.1==1) then
   j0d r v_.2.1 1 λ(r1:List Int)=>
    k0 r1
  else
   bif (v_.1==2) then
    j1w r (decide (v_.2.1<0)) λ(r2:List Int)=>
     j0d r2 (mxI v_.2.1 (Z8o (0-v_.2.1))) 6 λ(r3:List Int)=>
      k0 r3
   else
    bif (v_.1==3) then
     j0J r v_.2.2 λ(r4:List Int)=>
      k0 r4
    else
     k0 r
noncomputable def j7H:Sig Unit:=⟨[.eat y0 false,.borrow y2 true],[false],λvals ext k=>ao vals y0 [.O] λb vals=>av vals y2 λv_ vals=>nl vals<|nl ext<|j5t b v_ (λ(r0:List Int)=>k [w1 y0 r0 .O] [] [])⟩
theorem jb2:Z1p Try.prog 113 j7H:=j04 (np:=0) follows j01 (Z8K j8E (Z8K j4D (Z8K jaj Z94))) [] oN false Try.func113 λ_ _ k _ h=>aO h λ_ _ _ _ h=>aV h λ_ _ _ _ _ h=>nL h λ_ h=>nL h λ_ h=>by subst_vars;exact .trans (by delta j5t j0O j79 j3Y;refine gz j0d λ_ e=> ?_;rewrite [<-e];refine gz j1w λ_ e=> ?_;rewrite [<-e];refine gz j0J λ_ e=> ?_;rewrite [<-e];kernel_rfl) h
theorem jai:Fns Try.prog [(112,j0O),(113,j7H)]:=(Z8K j4D (Z8K jb2 Z94))
noncomputable def j3j (t11:List qV) (t12:Int) (b:List Int) (t13:Int) (rec:(List Int)->Int->Res) (k0:(List Int)->Res):Res:=
 bif decide (t13<t12) then
  bif inb t13 (List.length t11) then
   j5t b (nth (0,0,eS) t11 t13) λ(r:List Int)=>
    rec r (Z8o (t13+1))
  else none
 else
  k0 b
noncomputable def j6I (t11:List qV) (t12:Int):((List Int)×Int)->((List Int)×Int->Res)->(((List Int)->Res))->Res:=λv rec q=>j3j t11 t12 v.1 v.2 (λb t13=>rec (b,t13)) q
noncomputable def j5X (t11:List qV) (t12:Int) (n:Nat) (b:List Int) (t13:Int) (k0:(List Int)->Res):Res:=Z14 (j6I t11 t12) n (b,t13) (k0)
noncomputable def j7t:Z1q Unit:=λσ k=>rdN σ 22<|rd1 σ 0 y0 .O λb=>rd1 σ 11 y3 .S λt11=>rdI σ 12 λt12=>rdI σ 13 λt13=>j5X t11 t12 Z12 b t13 (λ(b1:List Int)=>k (.exit 0) (mkS 22 22 [(0,v1 y0 b1 .O)] []))
theorem jcK {W0:Base} {M:Nat->Prop} (hnp:W0.np<=0):Z22 Try.prog W0 M (cAt 58 (bo Try.f111)) j7t:=j0b follows j01 jai hnp [] oN [0,11,12,13] [] ([],[]) [(0,[0],[])] ([],[]) λσ k _ h=>rN h λhn h=>rV h λb h0 h=>rV h λt11 h11 h=>rV h λt12 h12 h=>rV h λt13 h13 h=>⟨_,Z9m (m:=22) hn (sC h0 (sC h11 (sC h12 (sC h13 sN)))) bN,.trans (Z88 (λv:(List Int)×Int=>(mkS 22 22 [(0,v1 y0 v.1 .O),(11,v1 y3 t11 .S),(12,vI t12),(13,vI v.2)] [])) (j6I t11 t12) (λ(k:Z6O Unit)=>(((λ(b1:List Int)=>k (.exit 0) (mkS 22 22 [(0,v1 y0 b1 .O)] []))):((List Int)->Res))) (λv rec k=>by kernel_rfl) Z12 (b,t13) k) h⟩
noncomputable def j4m (b:List Int) (l:List qV) (k0:(List Int)->Res):Res:=
 j0d b (nI (List.length l)) 1 λ(r:List Int)=>
  j5X l (nI (List.length l)) Z12 r 0 λ(b1:List Int)=>
   k0 b1
noncomputable def j8L:Sig Unit:=⟨[.eat y0 false,.borrow y3 false],[false],λvals ext k=>ao vals y0 [.O] λb vals=>av vals y3 λl vals=>nl vals<|nl ext<|j4m b l (λ(r0:List Int)=>k [w1 y0 r0 .O] [] [])⟩
theorem jdu:Z1p Try.prog 111 j8L:=j04 (np:=0) follows j01 jai [j7t] (oI 58 0 (jcK) oN) false Try.func111 λ_ _ k _ h=>aO h λ_ _ _ _ h=>aV h λ_ _ _ _ _ h=>nL h λ_ h=>nL h λ_ h=>by subst_vars;exact .trans (by delta j4m j0O j7t;refine gz j0d λ_ e=> ?_;rewrite [<-e];refine gz j5X λ_ e=> ?_;rewrite [<-e];kernel_rfl) h
theorem j9A:Fns Try.prog [(110,j3Y),(112,j0O)]:=(Z8K j8E (Z8K j4D Z94))
noncomputable def j0y (t11:qL) (t12:Int) (b:List Int) (t13:Int) (rec:(List Int)->Int->Res) (k0:(List Int)->Res):Res:=
 bif decide (t13<t12) then
  bif inb t13 (List.length t11) then
   j0J b (nth eS t11 t13) λ(r:List Int)=>
    rec r (Z8o (t13+1))
  else none
 else
  k0 b
noncomputable def j48 (t11:qL) (t12:Int):((List Int)×Int)->((List Int)×Int->Res)->(((List Int)->Res))->Res:=λv rec q=>j0y t11 t12 v.1 v.2 (λb t13=>rec (b,t13)) q
noncomputable def j3T (t11:qL) (t12:Int) (n:Nat) (b:List Int) (t13:Int) (k0:(List Int)->Res):Res:=Z14 (j48 t11 t12) n (b,t13) (k0)
noncomputable def j74:Z1q Unit:=λσ k=>rdN σ 22<|rd1 σ 0 y0 .O λb=>rd1 σ 11 y9 .S λt11=>rdI σ 12 λt12=>rdI σ 13 λt13=>j3T t11 t12 Z12 b t13 (λ(b1:List Int)=>k (.exit 0) (mkS 22 22 [(0,v1 y0 b1 .O)] []))
theorem jc1 {W0:Base} {M:Nat->Prop} (hnp:W0.np<=0):Z22 Try.prog W0 M (cAt 58 (bo Try.f115)) j74:=j0b follows j01 j9A hnp [] oN [0,11,12,13] [] ([],[]) [(0,[0],[])] ([],[]) λσ k _ h=>rN h λhn h=>rV h λb h0 h=>rV h λt11 h11 h=>rV h λt12 h12 h=>rV h λt13 h13 h=>⟨_,Z9m (m:=22) hn (sC h0 (sC h11 (sC h12 (sC h13 sN)))) bN,.trans (Z88 (λv:(List Int)×Int=>(mkS 22 22 [(0,v1 y0 v.1 .O),(11,v1 y9 t11 .S),(12,vI t12),(13,vI v.2)] [])) (j48 t11 t12) (λ(k:Z6O Unit)=>(((λ(b1:List Int)=>k (.exit 0) (mkS 22 22 [(0,v1 y0 b1 .O)] []))):((List Int)->Res))) (λv rec k=>by kernel_rfl) Z12 (b,t13) k) h⟩
noncomputable def j13 (b:List Int) (l:qL) (k0:(List Int)->Res):Res:=
 j0d b (nI (List.length l)) 1 λ(r:List Int)=>
  j3T l (nI (List.length l)) Z12 r 0 λ(b1:List Int)=>
   k0 b1
noncomputable def j4q:Sig Unit:=⟨[.eat y0 false,.borrow y9 false],[false],λvals ext k=>ao vals y0 [.O] λb vals=>av vals y9 λl vals=>nl vals<|nl ext<|j13 b l (λ(r0:List Int)=>k [w1 y0 r0 .O] [] [])⟩
theorem j9E:Z1p Try.prog 115 j4q:=j04 (np:=0) follows j01 j9A [j74] (oI 58 0 (jc1) oN) false Try.func115 λ_ _ k _ h=>aO h λ_ _ _ _ h=>aV h λ_ _ _ _ _ h=>nL h λ_ h=>nL h λ_ h=>by subst_vars;exact .trans (by delta j13 j0O j74;refine gz j0d λ_ e=> ?_;rewrite [<-e];refine gz j3T λ_ e=> ?_;rewrite [<-e];kernel_rfl) h
theorem j7N:Fns Try.prog [(109,j3V),(110,j3Y),(111,j8L),(112,j0O),(113,j7H),(114,j79),(115,j4q)]:=(Z8K j9o (Z8K j8E (Z8K jdu (Z8K j4D (Z8K jb2 (Z8K jaj (Z8K j9E Z94)))))))
noncomputable def j0K (t41:List qC) (t42:Int) (b:List Int) (t43:Int) (rec:(List Int)->Int->Res) (k0:(List Int)->Res):Res:=
 bif decide (t43<t42) then
  bif inb t43 (List.length t41) then
   j0J b (nth (eS,0,false,false,0,0,eS) t41 t43).1 λ(r:List Int)=>
    j0d r (nth (eS,0,false,false,0,0,eS) t41 t43).2.1 1 λ(r1:List Int)=>
     j1w r1 (nth (eS,0,false,false,0,0,eS) t41 t43).2.2.1 λ(r2:List Int)=>
      j1w r2 (nth (eS,0,false,false,0,0,eS) t41 t43).2.2.2.1 λ(r3:List Int)=>
       j5t r3 (nth (eS,0,false,false,0,0,eS) t41 t43).2.2.2.2 λ(r4:List Int)=>
        rec r4 (Z8o (t43+1))
  else none
 else
  k0 b
noncomputable def j2r (t41:List qC) (t42:Int):((List Int)×Int)->((List Int)×Int->Res)->(((List Int)->Res))->Res:=λv rec q=>j0K t41 t42 v.1 v.2 (λb t43=>rec (b,t43)) q
noncomputable def j1M (t41:List qC) (t42:Int) (n:Nat) (b:List Int) (t43:Int) (k0:(List Int)->Res):Res:=Z14 (j2r t41 t42) n (b,t43) (k0)
noncomputable def j4y:Z1q Unit:=λσ k=>rdN σ 76<|rd1 σ 4 y0 .O λb=>rdT σ 5 (pB 5)<|rd1 σ 41 y8 .S λt41=>rdI σ 42 λt42=>rdI σ 43 λt43=>rdB σ 5 y14 [.S,.S] λa d=>j1M t41 t42 Z12 b t43 (λ(b1:List Int)=>k (.exit 0) (mkS 76 76 [(4,v1 y0 b1 .O),(5,pB 5)] [(5,⟨y14,a,d,[.S,.S]⟩)]))
theorem j9M {W0:Base} {M:Nat->Prop} (hnp:W0.np<=0):Z22 Try.prog W0 M (cAt 2042 (bo Try.f52)) j4y:=j0b follows j01 j7N hnp [] oN [4,5,41,42,43] [5] ([],[]) [(0,[4,5],[5])] ([],[]) λσ k _ h=>rN h λhn h=>rV h λb h4 h=>rT h λh5 h=>rV h λt41 h41 h=>rV h λt42 h42 h=>rV h λt43 h43 h=>rB h λa d hb5 h=>⟨_,Z9m (m:=76) hn (sC h4 (sC h5 (sC h41 (sC h42 (sC h43 sN))))) (bC hb5 bN),.trans (Z88 (λv:(List Int)×Int=>(mkS 76 76 [(4,v1 y0 v.1 .O),(5,pB 5),(41,v1 y8 t41 .S),(42,vI t42),(43,vI v.2)] [(5,⟨y14,a,d,[.S,.S]⟩)])) (j2r t41 t42) (λ(k:Z6O Unit)=>(((λ(b1:List Int)=>k (.exit 0) (mkS 76 76 [(4,v1 y0 b1 .O),(5,pB 5)] [(5,⟨y14,a,d,[.S,.S]⟩)]))):((List Int)->Res))) (λv rec k=>by delta j2r j0K j3Y j0O j79 j7H;refine gz j0J λ_ e=> ?_;rewrite [<-e];refine gz j0d λ_ e=> ?_;rewrite [<-e];refine gz j1w λ_ e=> ?_;rewrite [<-e];refine gz j5t λ_ e=> ?_;rewrite [<-e];kernel_rfl) Z12 (b,t43) k) h⟩
noncomputable def j0m (s:qS) (k0:(List Int)->Bool->Res):Res:=
 j24 s λ(r:Bool)=>
  bif !r then
   k0 [] false
  else
   j0J [83,wu8 s.1] s.2.1 λ(r1:List Int)=>
    j4m r1 s.2.2.1 λ(r2:List Int)=>
     j4m r2 s.2.2.2.1 λ(r3:List Int)=>
      bif (s.1 != 5) then
       k0 r3 true
      else
       j0d r3 s.2.2.2.2.1 1 λ(r4:List Int)=>
        j0d r4 (nI (List.length s.2.2.2.2.2.2.1)) 1 λ(r5:List Int)=>
         j1M s.2.2.2.2.2.2.1 (nI (List.length s.2.2.2.2.2.2.1)) Z12 r5 0 λ(b:List Int)=>
          j13 b s.2.2.2.2.2.2.2.1 λ(r6:List Int)=>
           j0J r6 s.2.2.2.2.2.2.2.2.1 λ(r7:List Int)=>
            j0J r7 s.2.2.2.2.2.2.2.2.2 λ(r8:List Int)=>
             k0 r8 true
noncomputable def j2f:Sig Unit:=⟨[.borrow y18 true],[false,false],λvals ext k=>av vals y18 λs vals=>nl vals<|nl ext<|j0m s (λ(r0:List Int) (r1:Bool)=>k [w1 y0 r0 .O,wB r1] [] [])⟩
theorem j7P:Z1p Try.prog 52 j2f:=j04 (np:=0) follows j01 j7N [j4y] (oI 2042 0 (j9M) oN) false Try.func52 λ_ _ k _ h=>aV h λ_ _ _ _ _ h=>nL h λ_ h=>nL h λ_ h=>by subst_vars;exact .trans (by delta j0m j3V j3Y j8L j0O j4y j4q;refine gz j24 λ_ e=> ?_;rewrite [<-e];refine gz j0J λ_ e=> ?_;rewrite [<-e];refine gz j4m λ_ e=> ?_;rewrite [<-e];refine gz j0d λ_ e=> ?_;rewrite [<-e];refine gz j1M λ_ e=> ?_;rewrite [<-e];refine gz j13 λ_ e=> ?_;rewrite [<-e];kernel_rfl) h
theorem j2F:Fns Try.prog [(46,j0j),(47,j0C),(48,j5x),(49,j0u),(50,j4c),(51,j1T),(52,j2f)]:=(Z8K j2G (Z8K j5o (Z8K jat (Z8K j3x (Z8K j8r (Z8K j7v (Z8K j7P Z94)))))))
noncomputable def j2c (x:qS) (t14:List Int×Int×Bool) (k0:qS->(List Int×Int×Bool)->Res):Res:=
 Z6T
  (j05 1 t14 λ(r:Int) (bt14:List Int×Int×Bool)=>
   k0 (x.1,x.2.1,x.2.2.1,x.2.2.2.1,r,x.2.1,[],[],eS,eS) bt14)
  (Z6T
   (j05 1 t14 λ(r1:Int) (bt141:List Int×Int×Bool)=>
    k0 (x.1,x.2.1,x.2.2.1,x.2.2.2.1,r1,x.2.1,[],[],eS,eS) bt141)
   (j05 1 t14 λ(r2:Int) (bt142:List Int×Int×Bool)=>
    k0 (x.1,x.2.1,x.2.2.1,x.2.2.2.1,r2,x.2.1,[],[],eS,eS) bt142))
noncomputable def j1b:Z1q Unit:=λσ k=>rdN σ 106<|rd1 σ 0 y0 .S λb=>rdT σ 2 (pB 2)<|rdT σ 4 (pB 14)<|rdT σ 5 (pB 5)<|rdB σ 2 y18 [.O,.O,.O,.O] λa t2=>rdB σ 5 y18 [.O,.O,.O,.O] λa1 x=>rdB σ 14 y25 [.S] λa2 t14=>j2c x t14 (λ(x1:qS) (t141:List Int×Int×Bool)=>k .normal (mkS 106 106 [(0,v1 y0 b .S),(2,pB 2),(4,pB 14),(5,pB 5)] [(2,⟨y18,a,t2,[.O,.O,.O,.O]⟩),(5,⟨y18,a1,x1,[.O,.O,.O,.O]⟩),(14,⟨y25,a2,t141,[.S]⟩)]))
theorem ja6 {W0:Base} {M:Nat->Prop} (hnp:W0.np<=0):Z22 Try.prog W0 M (cAt 4084 (bo Try.f10)) j1b:=j2s follows j01 j2F hnp [] oN ([0,2,4,5],[2,5,14]) [] ([],[]) λσ k _ h=>rN h λhn h=>rV h λb h0 h=>rT h λh2 h=>rT h λh4 h=>rT h λh5 h=>rB h λa t2 hb2 h=>rB h λa1 x hb5 h=>rB h λa2 t14 hb14 h=>⟨_,Z9m (m:=106) hn (sC h0 (sC h2 (sC h4 (sC h5 sN)))) (bC hb2 (bC hb5 (bC hb14 bN))),.trans (by delta j2c j0j;refine gz j05 λ_ e=> ?_;rewrite [<-e];kernel_rfl) h⟩
noncomputable def j0T (t41:Int) (t42:Int) (x:qS) (t14:List Int×Int×Bool) (rec:Int->qS->(List Int×Int×Bool)->Res) (k0:qS->(List Int×Int×Bool)->Res):Res:=
 bif decide (t42<t41) then
  j08 t14 λ(r:qB) (bt14:List Int×Int×Bool)=>
   j05 1 bt14 λ(r1:Int) (bt141:List Int×Int×Bool)=>
    j05 1 bt141 λ(r2:Int) (bt142:List Int×Int×Bool)=>
     j05 1 bt142 λ(r3:Int) (bt143:List Int×Int×Bool)=>
      j0D bt143 λ(r4:Int×Int×qB) (bt144:List Int×Int×Bool)=>
       bif lim ((List.length x.2.2.2.2.2.2.1)+1) then
        rec (Z8o (t42+1)) (x.1,x.2.1,x.2.2.1,x.2.2.2.1,x.2.2.2.2.1,x.2.2.2.2.2.1,(x.2.2.2.2.2.2.1++[(r,r1,(r2==1),(r3==1),r4)]),x.2.2.2.2.2.2.2) bt144
       else none
 else
  k0 x t14
noncomputable def j2L (t41:Int):(Int×qS×(List Int×Int×Bool))->(Int×qS×(List Int×Int×Bool)->Res)->((qS->(List Int×Int×Bool)->Res))->Res:=λv rec q=>j0T t41 v.1 v.2.1 v.2.2 (λt42 x t14=>rec (t42,x,t14)) q
noncomputable def j3A (t41:Int) (n:Nat) (t42:Int) (x:qS) (t14:List Int×Int×Bool) (k0:qS->(List Int×Int×Bool)->Res):Res:=Z14 (j2L t41) n (t42,x,t14) (k0)
noncomputable def j1X:Z1q Unit:=λσ k=>rdN σ 106<|rd1 σ 0 y0 .S λb=>rdT σ 2 (pB 2)<|rdT σ 4 (pB 14)<|rdT σ 5 (pB 5)<|rdI σ 41 λt41=>rdI σ 42 λt42=>rdB σ 2 y18 [.O,.O,.O,.O] λa t2=>rdB σ 5 y18 [.O,.O,.O,.O] λa1 x=>rdB σ 14 y25 [.S] λa2 t14=>j3A t41 Z12 t42 x t14 (λ(x1:qS) (t141:List Int×Int×Bool)=>k (.exit 0) (mkS 106 106 [(0,v1 y0 b .S),(2,pB 2),(4,pB 14),(5,pB 5)] [(2,⟨y18,a,t2,[.O,.O,.O,.O]⟩),(5,⟨y18,a1,x1,[.O,.O,.O,.O]⟩),(14,⟨y25,a2,t141,[.S]⟩)]))
theorem ja5 {W0:Base} {M:Nat->Prop} (hnp:W0.np<=0):Z22 Try.prog W0 M (cAt 65370 (bo Try.f10)) j1X:=j0b follows j01 j2F hnp [j1b] oN [0,2,4,5,41,42] [2,5,14] ([],[]) [(0,[0,2,4,5],[2,5,14])] ([],[]) λσ k _ h=>rN h λhn h=>rV h λb h0 h=>rT h λh2 h=>rT h λh4 h=>rT h λh5 h=>rV h λt41 h41 h=>rV h λt42 h42 h=>rB h λa t2 hb2 h=>rB h λa1 x hb5 h=>rB h λa2 t14 hb14 h=>⟨_,Z9m (m:=106) hn (sC h0 (sC h2 (sC h4 (sC h5 (sC h41 (sC h42 sN)))))) (bC hb2 (bC hb5 (bC hb14 bN))),.trans (Z88 (λv:Int×qS×(List Int×Int×Bool)=>(mkS 106 106 [(0,v1 y0 b .S),(2,pB 2),(4,pB 14),(5,pB 5),(41,vI t41),(42,vI v.1)] [(2,⟨y18,a,t2,[.O,.O,.O,.O]⟩),(5,⟨y18,a1,v.2.1,[.O,.O,.O,.O]⟩),(14,⟨y25,a2,v.2.2,[.S]⟩)])) (j2L t41) (λ(k:Z6O Unit)=>(((λ(x1:qS) (t141:List Int×Int×Bool)=>k (.exit 0) (mkS 106 106 [(0,v1 y0 b .S),(2,pB 2),(4,pB 14),(5,pB 5)] [(2,⟨y18,a,t2,[.O,.O,.O,.O]⟩),(5,⟨y18,a1,x1,[.O,.O,.O,.O]⟩),(14,⟨y25,a2,t141,[.S]⟩)]))):(qS->(List Int×Int×Bool)->Res))) (λv rec k=>by delta j2L j0T j0C j0j j4c;refine gz j08 λ_ e=> ?_;rewrite [<-e];refine gz j05 λ_ e=> ?_;rewrite [<-e];refine gz j0D λ_ e=> ?_;rewrite [<-e];kernel_rfl) Z12 (t42,x,t14) k) h⟩
noncomputable def j1p (t32:Bool) (x:qS) (t14:List Int×Int×Bool) (k0:qS->(List Int×Int×Bool)->Res):Res:=
 bif t32 then
  j2c x t14 λ(x1:qS) (t:List Int×Int×Bool)=>
   j06 8 t λ(r:Int) (bt14:List Int×Int×Bool)=>
    j3A r Z12 0 x1 bt14 λ(x2:qS) (t1:List Int×Int×Bool)=>
     j0o t1 λ(r1:qL) (bt141:List Int×Int×Bool)=>
      j08 bt141 λ(r2:qB) (bt142:List Int×Int×Bool)=>
       j08 bt142 λ(r3:qB) (bt143:List Int×Int×Bool)=>
        k0 (x2.1,x2.2.1,x2.2.2.1,x2.2.2.2.1,x2.2.2.2.2.1,x2.2.2.2.2.2.1,x2.2.2.2.2.2.2.1,r1,r2,r3) bt143
 else
  k0 x t14
noncomputable def j3d:Z1q Unit:=λσ k=>rdN σ 106<|rd1 σ 0 y0 .S λb=>rdT σ 2 (pB 2)<|rdT σ 4 (pB 14)<|rdT σ 5 (pB 5)<|rdO σ 32 λt32=>rdB σ 2 y18 [.O,.O,.O,.O] λa t2=>rdB σ 5 y18 [.O,.O,.O,.O] λa1 x=>rdB σ 14 y25 [.S] λa2 t14=>j1p t32 x t14 (λ(x3:qS) (t141:List Int×Int×Bool)=>k .normal (mkS 106 106 [(0,v1 y0 b .S),(2,pB 2),(4,pB 14),(5,pB 5)] [(2,⟨y18,a,t2,[.O,.O,.O,.O]⟩),(5,⟨y18,a1,x3,[.O,.O,.O,.O]⟩),(14,⟨y25,a2,t141,[.S]⟩)]))
theorem ja7 {W0:Base} {M:Nat->Prop} (hnp:W0.np<=0):Z22 Try.prog W0 M (cAt 1021 (bo Try.f10)) j3d:=j2s follows j01 j2F hnp [j1b,j1X] (oI 4 0 (ja6) (oI 90 1 (ja5) oN)) ([0,2,4,5],[2,5,14]) [] ([],[]) λσ k _ h=>rN h λhn h=>rV h λb h0 h=>rT h λh2 h=>rT h λh4 h=>rT h λh5 h=>rV h λt32 h32 h=>rB h λa t2 hb2 h=>rB h λa1 x hb5 h=>rB h λa2 t14 hb14 h=>⟨_,Z9m (m:=106) hn (sC h0 (sC h2 (sC h4 (sC h5 (sC h32 sN))))) (bC hb2 (bC hb5 (bC hb14 bN))),.trans (by delta j1p j1b j0u j1X j1T j0C;refine gz j2c λ_ e=> ?_;rewrite [<-e];refine gz j06 λ_ e=> ?_;rewrite [<-e];refine gz j3A λ_ e=> ?_;rewrite [<-e];refine gz j0o λ_ e=> ?_;rewrite [<-e];refine gz j08 λ_ e=> ?_;rewrite [<-e];kernel_rfl) h⟩
noncomputable def j0Q (b:List Int) (back:List Int) (ok:Bool) (t14:List Int×Int×Bool) (k0:Bool->Res):Res:=
 bif t14.2.2 then
  k0 true
 else
  bif !ok then
   k0 true
  else
   k0 (sNe (Z34 back) (Z34 b))
noncomputable def j58:Z1q Unit:=λσ k=>rdN σ 106<|rd1 σ 0 y0 .S λb=>rdT σ 2 (pB 2)<|rdT σ 4 (pB 14)<|rdT σ 5 (pB 5)<|rd1 σ 10 y0 .O λback=>rdO σ 11 λok=>rdB σ 2 y18 [.O,.O,.O,.O] λa t2=>rdB σ 5 y18 [.O,.O,.O,.O] λa1 x=>rdB σ 14 y25 [.S] λa2 t14=>j0Q b back ok t14 (λ(t103:Bool)=>k .normal (mkS 106 106 [(2,pB 2),(5,pB 5),(103,vB t103)] [(2,⟨y18,a,t2,[.O,.O,.O,.O]⟩),(5,⟨y18,a1,x,[.O,.O,.O,.O]⟩)]))
theorem ja8 {W0:Base} {M:Nat->Prop} (hnp:W0.np<=0):Z22 Try.prog W0 M (cAt 4092 (bo Try.f10)) j58:=j2s follows j01 j2F hnp [j1b,j1X,j3d] oN ([2,5,103],[2,5]) [] ([],[]) λσ k _ h=>rN h λhn h=>rV h λb h0 h=>rT h λh2 h=>rT h λh4 h=>rT h λh5 h=>rV h λback h10 h=>rV h λok h11 h=>rB h λa t2 hb2 h=>rB h λa1 x hb5 h=>rB h λa2 t14 hb14 h=>⟨_,Z9m (m:=106) hn (sC h0 (sC h2 (sC h4 (sC h5 (sC h10 (sC h11 sN)))))) (bC hb2 (bC hb5 (bC hb14 bN))),.trans (by kernel_rfl) h⟩
noncomputable def j0N (b:List Int) (k0:qS->Bool->Res):Res:=
 j05 1 (b,0,false) λ(r:Int) (bt14:List Int×Int×Bool)=>
  j05 1 bt14 λ(r1:Int) (bt141:List Int×Int×Bool)=>
   j08 bt141 λ(r2:qB) (bt142:List Int×Int×Bool)=>
    j29 bt142 λ(r3:List qV) (bt143:List Int×Int×Bool)=>
     j29 bt143 λ(r4:List qV) (bt144:List Int×Int×Bool)=>
      j1p (r1==5) (r1,r2,r3,r4,0,eS,[],[],eS,eS) bt144 λ(x:qS) (t:List Int×Int×Bool)=>
       j0m x λ(r5:List Int) (r6:Bool)=>
        j0Q b r5 r6 t λ(t1:Bool)=>
         bif t1 then
          k0 (0,eS,[],[],0,eS,[],[],eS,eS) false
         else
          k0 x true
noncomputable def j6a:Sig Unit:=⟨[.borrow y0 false],[true,false],λvals ext k=>av vals y0 λb vals=>nl vals<|nl ext<|j0N b (λ(r0:qS) (r1:Bool)=>k [⟨y18,true,r0,[.O,.O,.O,.O]⟩,wB r1] [] [])⟩
theorem jb0:Z1p Try.prog 10 j6a:=j04 (np:=0) follows j01 j2F [j1b,j1X,j3d,j58] (oI 1021 2 (ja7) (oI 4092 3 (ja8) oN)) false Try.func10 λ_ _ k _ h=>aV h λ_ _ _ _ _ h=>nL h λ_ h=>nL h λ_ h=>by subst_vars;exact .trans (by delta j0N j0j j0C j5x j3d j2f j58;refine gz j05 λ_ e=> ?_;rewrite [<-e];refine gz j08 λ_ e=> ?_;rewrite [<-e];refine gz j29 λ_ e=> ?_;rewrite [<-e];refine gz j1p λ_ e=> ?_;rewrite [<-e];refine gz j0m λ_ e=> ?_;rewrite [<-e];refine gz j0Q λ_ e=> ?_;rewrite [<-e];kernel_rfl) h
noncomputable def j3R (t6:List Int) (t7:Int) (n_:Int) (t8:Int) (rec:Int->Int->Res) (k0:Int->Res):Res:=
 bif decide (t8<t7) then
  bif inb t8 (List.length t6) then
   rec (Int.tmod (Z8o ((Z8o ((Z8o (257 * n_))+(Z8o (nth 0 t6 t8))))+1)) 16777213) (Z8o (t8+1))
  else none
 else
  k0 n_
noncomputable def j7l (t6:List Int) (t7:Int):(Int×Int)->(Int×Int->Res)->((Int->Res))->Res:=λv rec q=>j3R t6 t7 v.1 v.2 (λn_ t8=>rec (n_,t8)) q
noncomputable def j8J (t6:List Int) (t7:Int) (n:Nat) (n_:Int) (t8:Int) (k0:Int->Res):Res:=Z14 (j7l t6 t7) n (n_,t8) (k0)
noncomputable def j9T:Z1q Unit:=λσ k=>rdN σ 21<|rdI σ 3 λn_=>rd1 σ 6 y0 .S λt6=>rdI σ 7 λt7=>rdI σ 8 λt8=>j8J t6 t7 Z12 n_ t8 (λ(n_1:Int)=>k (.exit 0) (mkS 21 21 [(3,vI n_1)] []))
theorem jdh {W0:Base} {M:Nat->Prop} (hnp:W0.np<=0):Z22 Try.prog W0 M (cAt 58 (bo Try.f165)) j9T:=j0b follows j01 Z94 hnp [] oN [3,6,7,8] [] ([],[]) [(0,[3],[])] ([],[]) λσ k _ h=>rN h λhn h=>rV h λn_ h3 h=>rV h λt6 h6 h=>rV h λt7 h7 h=>rV h λt8 h8 h=>⟨_,Z9m (m:=21) hn (sC h3 (sC h6 (sC h7 (sC h8 sN)))) bN,.trans (Z88 (λv:Int×Int=>(mkS 21 21 [(3,vI v.1),(6,v1 y0 t6 .S),(7,vI t7),(8,vI v.2)] [])) (j7l t6 t7) (λ(k:Z6O Unit)=>(((λ(n_1:Int)=>k (.exit 0) (mkS 21 21 [(3,vI n_1)] []))):(Int->Res))) (λv rec k=>by kernel_rfl) Z12 (n_,t8) k) h⟩
noncomputable def j5r (b:List Int) (k0:Int->Res):Res:=
 j8J b (nI (List.length b)) Z12 1 0 λ(n_:Int)=>
  k0 n_
noncomputable def j9a:Sig Unit:=⟨[.look y0 false],[false],λvals ext k=>av vals y0 λb vals=>nl vals<|nl ext<|j5r b (λ(r0:Int)=>k [wI r0] [] [])⟩
theorem jdM:Z1p Try.prog 165 j9a:=j04 (np:=0) follows j01 Z94 [j9T] (oI 58 0 (jdh) oN) false Try.func165 λ_ _ k _ h=>aV h λ_ _ _ _ _ h=>nL h λ_ h=>nL h λ_ h=>by subst_vars;exact .trans (by kernel_rfl) h
end Go.PI.G
