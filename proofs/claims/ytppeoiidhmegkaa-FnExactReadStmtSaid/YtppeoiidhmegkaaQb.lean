/-
  Program's code interpreted over typed values; printed texts; plain laws. No conditions.
-/
import Derived.Test.YtppeoiidhmegkaaQa
set_option linter.unusedVariables false
set_option maxRecDepth 100000
namespace Go.PI.G
open Go Go.PI Go.Proofs
open Go.Code (pl pr)
noncomputable def j4q (b:List Int) (at_:Int) (size:Int) (k0:Bool->Res):Res:=
 bif decide (size<1) then
  k0 true
 else
  bif decide (size>6) then
   k0 true
  else
   bif decide (at_<0) then
    k0 true
   else
    k0 (decide (at_>(Z8o ((nI (List.length b))-size))))
noncomputable def j3O:Z1q Unit:=λσ k=>rdN σ 44<|rd1 σ 0 y0 .S λb=>rdI σ 1 λat_=>rdI σ 2 λsize=>j4q b at_ size (λ(t27:Bool)=>k .normal (mkS 44 44 [(0,v1 y0 b .S),(1,vI at_),(2,vI size),(27,vB t27)] []))
theorem j9W {W0:Base} {M:Nat->Prop} (hnp:W0.np<=0):Z22 Try.prog W0 M (cAt 12 (bo Try.f101)) j3O:=j1J follows j01 Z94 hnp [] oN ([0,1,2,27],[]) [] ([],[]) λσ k _ h=>rN h λhn h=>rV h λb h0 h=>rV h λat_ h1 h=>rV h λsize h2 h=>⟨_,Z9m (m:=44) hn (sC h0 (sC h1 (sC h2 sN))) bN,.trans (by kernel_rfl) h⟩
noncomputable def j23 (b:List Int) (at_:Int) (size:Int) (n_:Int) (i:Int) (rec:Int->Int->Res) (k0:Int->Res):Res:=
 bif decide (i<size) then
  bif inb (Z8o (at_+i)) (List.length b) then
   rec (Z8o ((Z8o (n_ * 256))+(Z8o (nth 0 b (Z8o (at_+i)))))) (Z8o (i+1))
  else none
 else
  k0 n_
noncomputable def j58 (b:List Int) (at_:Int) (size:Int):(Int×Int)->(Int×Int->Res)->((Int->Res))->Res:=λv rec q=>j23 b at_ size v.1 v.2 (λn_ i=>rec (n_,i)) q
noncomputable def j4p (b:List Int) (at_:Int) (size:Int) (n:Nat) (n_:Int) (i:Int) (k0:Int->Res):Res:=Z14 (j58 b at_ size) n (n_,i) (k0)
noncomputable def j5P:Z1q Unit:=λσ k=>rdN σ 44<|rd1 σ 0 y0 .S λb=>rdI σ 1 λat_=>rdI σ 2 λsize=>rdI σ 8 λn_=>rdI σ 9 λi=>j4p b at_ size Z12 n_ i (λ(n_1:Int)=>k (.exit 0) (mkS 44 44 [(8,vI n_1)] []))
theorem j9V {W0:Base} {M:Nat->Prop} (hnp:W0.np<=0):Z22 Try.prog W0 M (cAt 122 (bo Try.f101)) j5P:=j0f follows j01 Z94 hnp [j3O] oN [0,1,2,8,9] [] ([],[]) [(0,[8],[])] ([],[]) λσ k _ h=>rN h λhn h=>rV h λb h0 h=>rV h λat_ h1 h=>rV h λsize h2 h=>rV h λn_ h8 h=>rV h λi h9 h=>⟨_,Z9m (m:=44) hn (sC h0 (sC h1 (sC h2 (sC h8 (sC h9 sN))))) bN,.trans (Z88 (λv:Int×Int=>(mkS 44 44 [(0,v1 y0 b .S),(1,vI at_),(2,vI size),(8,vI v.1),(9,vI v.2)] [])) (j58 b at_ size) (λ(k:Z6O Unit)=>(((λ(n_1:Int)=>k (.exit 0) (mkS 44 44 [(8,vI n_1)] []))):(Int->Res))) (λv rec k=>by kernel_rfl) Z12 (n_,i) k) h⟩
noncomputable def j4L (b:List Int) (at_:Int) (size:Int) (k0:Int->Bool->Res):Res:=
 j4q b at_ size λ(t:Bool)=>
  bif t then
   k0 0 false
  else
   j4p b at_ size Z12 0 0 λ(n_:Int)=>
    k0 n_ true
noncomputable def jaY:Sig Unit:=⟨[.look y0 false,.look tI false,.look tI false],[false,false],λvals ext k=>av vals y0 λb vals=>av vals tI λat_ vals=>av vals tI λsize vals=>nl vals<|nl ext<|j4L b at_ size (λ(r0:Int) (r1:Bool)=>k [wI r0,wB r1] [] [])⟩
theorem jaO:Z1p Try.prog 101 jaY:=j05 (np:=0) follows j01 Z94 [j3O,j5P] (oI 12 0 (j9W) (oI 122 1 (j9V) oN)) false Try.func101 λ_ _ k _ h=>aV h λ_ _ _ _ _ h=>aV h λ_ _ _ _ _ h=>aV h λ_ _ _ _ _ h=>nL h λ_ h=>nL h λ_ h=>by subst_vars;exact .trans (by delta j4L j3O j5P;refine gz j4q λ_ e=> ?_;rewrite [<-e];refine gz j4p λ_ e=> ?_;rewrite [<-e];kernel_rfl) h
noncomputable def j00 (size:Int) (e0:List Int×Int) (k0:Int->(List Int×Int)->Res):Res:=
 j4L e0.1 e0.2 size λ(r:Int) (r1:Bool)=>
  k0 r (e0.1,Z8o (e0.2+size))
noncomputable def j0n:Sig Unit:=⟨[.ptr y21,.borrow tI false],[false],λvals ext k=>av vals tI λsize vals=>nl vals<|ab ext y21 [.S] λa e0 ext=>nl ext<|j00 size e0 (λ(r0:Int) (x0:List Int×Int)=>k [wI r0] [] [⟨y21,a,x0,[.S]⟩])⟩
theorem j4b:Z1p Try.prog 41 j0n:=j05 (np:=0) follows j01 (Z8K jaO Z94) [] oN false Try.func41 λ_ _ k _ h=>aV h λ_ _ _ _ _ h=>nL h λ_ h=>aB h λ_ _ _ _ h=>nL h λ_ h=>by subst_vars;exact .trans (by kernel_rfl) h
noncomputable def j2M (n_:Int) (e0:List Int×Int) (k0:Bool->Res):Res:=
 bif decide (n_>(Z8o ((nI (List.length e0.1))-e0.2))) then
  k0 true
 else
  k0 (decide (e0.2>(nI (List.length e0.1))))
noncomputable def j75:Z1q Unit:=λσ k=>rdN σ 63<|rdT σ 0 (pB 63)<|rdI σ 1 λn_=>rdB σ 63 y21 [.S] λa e0=>j2M n_ e0 (λ(t28:Bool)=>k .normal (mkS 63 64 [(0,pB 63),(1,vI n_),(28,vB t28)] [(63,⟨y21,a,e0,[.S]⟩)]))
theorem j9u {W0:Base} {M:Nat->Prop} (hnp:W0.np<=0):Z22 Try.prog W0 M (cAt 12 (bo Try.f42)) j75:=j1J follows j01 Z94 hnp [] oN ([0,1,28],[63]) [] ([],[]) λσ k _ h=>rN h λhn h=>rT h λh0 h=>rV h λn_ h1 h=>rB h λa e0 hb63 h=>⟨_,Z9m (m:=64) hn (sC h0 (sC h1 sN)) (bC hb63 bN),.trans (by kernel_rfl) h⟩
noncomputable def j02 (n_:Int) (e0:List Int×Int) (k0:qB->(List Int×Int)->Res):Res:=
 j2M n_ e0 λ(t:Bool)=>
  bif t then
   k0 eS (e0.1,Z8o ((nI (List.length e0.1))+1))
  else
   bif Z6Z (Z8o ((Z8o (e0.2+n_))-n_)) (Z8o (e0.2+n_)) (List.length e0.1) then
    k0 (Z34 (sub e0.1 (Z8o ((Z8o (e0.2+n_))-n_)) (Z8o (e0.2+n_)))) (e0.1,Z8o (e0.2+n_))
   else none
noncomputable def j0G:Sig Unit:=⟨[.ptr y21,.borrow tI false],[false],λvals ext k=>av vals tI λn_ vals=>nl vals<|ab ext y21 [.S] λa e0 ext=>nl ext<|j02 n_ e0 (λ(r0:qB) (x0:List Int×Int)=>k [wS r0] [] [⟨y21,a,x0,[.S]⟩])⟩
theorem j5W:Z1p Try.prog 42 j0G:=j05 (np:=0) follows j01 Z94 [j75] (oI 12 0 (j9u) oN) false Try.func42 λ_ _ k _ h=>aV h λ_ _ _ _ _ h=>nL h λ_ h=>aB h λ_ _ _ _ h=>nL h λ_ h=>by subst_vars;exact .trans (by kernel_rfl) h
theorem j81:Fns Try.prog [(41,j0n),(42,j0G)]:=(Z8K j4b (Z8K j5W Z94))
noncomputable def j0I (t9:Int) (v_:Int×Int×qB) (e0:List Int×Int) (k0:qV->(List Int×Int)->Res):Res:=
 bif (t9==1) then
  j00 1 e0 λ(r:Int) (bt36:List Int×Int)=>
   k0 (v_.1,r,v_.2.2) bt36
 else
  bif (t9==2) then
   j00 1 e0 λ(r1:Int) (bt361:List Int×Int)=>
    j00 6 bt361 λ(r2:Int) (bt362:List Int×Int)=>
     bif (r1==1) then
      k0 (v_.1,Z8o (0-r2),v_.2.2) bt362
     else
      k0 (v_.1,r2,v_.2.2) bt362
  else
   bif (t9==3) then
    j00 1 e0 λ(r3:Int) (bt363:List Int×Int)=>
     j02 r3 bt363 λ(r4:qB) (bt364:List Int×Int)=>
      k0 (v_.1,v_.2.1,r4) bt364
   else
    k0 v_ e0
noncomputable def j5T:Z1q Unit:=λσ k=>rdN σ 36<|rdT σ 0 (pB 36)<|rdT σ 2 (pB 2)<|rdT σ 3 (pB 3)<|rdI σ 9 λt9=>rdB σ 2 y2 [] λa t2=>rdB σ 3 y2 [] λa1 v_=>rdB σ 36 y21 [.S] λa2 e0=>j0I t9 v_ e0 (λ(v_1:Int×Int×qB) (e01:List Int×Int)=>k .normal (mkS 36 37 [(2,pB 2),(3,pB 3)] [(2,⟨y2,a,t2,[]⟩),(3,⟨y2,a1,v_1,[]⟩),(36,⟨y21,a2,e01,[.S]⟩)]))
theorem ja4 {W0:Base} {M:Nat->Prop} (hnp:W0.np<=0):Z22 Try.prog W0 M (cAt 29 (bo Try.f102)) j5T:=j1J follows j01 j81 hnp [] oN ([2,3],[2,3,36]) [] ([],[]) λσ k _ h=>rN h λhn h=>rT h λh0 h=>rT h λh2 h=>rT h λh3 h=>rV h λt9 h9 h=>rB h λa t2 hb2 h=>rB h λa1 v_ hb3 h=>rB h λa2 e0 hb36 h=>⟨_,Z9m (m:=37) hn (sC h0 (sC h2 (sC h3 (sC h9 sN)))) (bC hb2 (bC hb3 (bC hb36 bN))),.trans (by delta j0I j0n j0G;refine gz j00 λ_ e=> ?_;rewrite [<-e];refine gz j02 λ_ e=> ?_;rewrite [<-e];kernel_rfl) h⟩
noncomputable def j11 (e0:List Int×Int) (k0:qV->(List Int×Int)->Res):Res:=
 j00 1 e0 λ(r:Int) (bt36:List Int×Int)=>
  j0I r (r,0,eS) bt36 λ(v_:Int×Int×qB) (e:List Int×Int)=>
   k0 v_ e
noncomputable def j4T:Sig Unit:=⟨[.ptr y21],[true],λvals ext k=>nl vals<|ab ext y21 [.S] λa e0 ext=>nl ext<|j11 e0 (λ(r0:Int×Int×qB) (x0:List Int×Int)=>k [⟨y2,true,r0,[]⟩] [] [⟨y21,a,x0,[.S]⟩])⟩
theorem j84:Z1p Try.prog 102 j4T:=j05 (np:=0) follows j01 j81 [j5T] (oI 29 0 (ja4) oN) false Try.func102 λ_ _ k _ h=>nL h λ_ h=>aB h λ_ _ _ _ h=>nL h λ_ h=>by subst_vars;exact .trans (by delta j11 j0n j5T;refine gz j00 λ_ e=> ?_;rewrite [<-e];refine gz j0I λ_ e=> ?_;rewrite [<-e];kernel_rfl) h
theorem j7E:Fns Try.prog [(41,j0n),(102,j4T)]:=(Z8K j4b (Z8K j84 Z94))
noncomputable def j1F (n_:Int) (out:List qV) (i:Int) (e0:List Int×Int) (rec:qW->Int->(List Int×Int)->Res) (k0:qW->(List Int×Int)->Res):Res:=
 bif decide (i<n_) then
  bif decide (i<=8) then
   j11 e0 λ(r:Int×Int×qB) (bt24:List Int×Int)=>
    bif lim ((List.length out)+1) then
     rec (out++[r]) (Z8o (i+1)) bt24
    else none
  else
   k0 out e0
 else
  k0 out e0
noncomputable def j4C (n_:Int):(qW×Int×(List Int×Int))->(qW×Int×(List Int×Int)->Res)->((qW->(List Int×Int)->Res))->Res:=λv rec q=>j1F n_ v.1 v.2.1 v.2.2 (λout i e0=>rec (out,i,e0)) q
noncomputable def j5G (n_:Int) (n:Nat) (out:List qV) (i:Int) (e0:List Int×Int) (k0:qW->(List Int×Int)->Res):Res:=Z14 (j4C n_) n (out,i,e0) (k0)
noncomputable def j5g:Z1q Unit:=λσ k=>rdN σ 24<|rdT σ 0 (pB 24)<|rd1 σ 3 y3 .O λout=>rdI σ 4 λn_=>rdI σ 5 λi=>rdB σ 24 y21 [.S] λa e0=>j5G n_ Z12 out i e0 (λ(out1:List qV) (e01:List Int×Int)=>k (.exit 0) (mkS 24 25 [(3,v1 y3 out1 .O)] [(24,⟨y21,a,e01,[.S]⟩)]))
theorem j9v {W0:Base} {M:Nat->Prop} (hnp:W0.np<=0):Z22 Try.prog W0 M (cAt 122 (bo Try.f43)) j5g:=j0f follows j01 j7E hnp [] oN [0,3,4,5] [24] ([],[]) [(0,[3],[24])] ([],[]) λσ k _ h=>rN h λhn h=>rT h λh0 h=>rV h λout h3 h=>rV h λn_ h4 h=>rV h λi h5 h=>rB h λa e0 hb24 h=>⟨_,Z9m (m:=25) hn (sC h0 (sC h3 (sC h4 (sC h5 sN)))) (bC hb24 bN),.trans (Z88 (λv:qW×Int×(List Int×Int)=>(mkS 24 25 [(0,pB 24),(3,v1 y3 v.1 .O),(4,vI n_),(5,vI v.2.1)] [(24,⟨y21,a,v.2.2,[.S]⟩)])) (j4C n_) (λ(k:Z6O Unit)=>(((λ(out1:List qV) (e01:List Int×Int)=>k (.exit 0) (mkS 24 25 [(3,v1 y3 out1 .O)] [(24,⟨y21,a,e01,[.S]⟩)]))):(qW->(List Int×Int)->Res))) (λv rec k=>by kernel_rfl) Z12 (out,i,e0) k) h⟩
noncomputable def j3c (e0:List Int×Int) (k0:qW->(List Int×Int)->Res):Res:=
 j00 1 e0 λ(r:Int) (bt24:List Int×Int)=>
  j5G r Z12 [] 0 bt24 λ(out:List qV) (e:List Int×Int)=>
   k0 out e
noncomputable def j68:Sig Unit:=⟨[.ptr y21],[false],λvals ext k=>nl vals<|ab ext y21 [.S] λa e0 ext=>nl ext<|j3c e0 (λ(r0:List qV) (x0:List Int×Int)=>k [w1 y3 r0 .O] [] [⟨y21,a,x0,[.S]⟩])⟩
theorem jan:Z1p Try.prog 43 j68:=j05 (np:=0) follows j01 j7E [j5g] (oI 122 0 (j9v) oN) false Try.func43 λ_ _ k _ h=>nL h λ_ h=>aB h λ_ _ _ _ h=>nL h λ_ h=>by subst_vars;exact .trans (by delta j3c j0n j5g;refine gz j00 λ_ e=> ?_;rewrite [<-e];refine gz j5G λ_ e=> ?_;rewrite [<-e];kernel_rfl) h
theorem j2Q:Fns Try.prog [(41,j0n),(42,j0G),(102,j4T)]:=(Z8K j4b (Z8K j5W (Z8K j84 Z94)))
noncomputable def j0H (n_:Int) (i:Int) (d:qG) (e0:List Int×Int) (rec:Int->qG->(List Int×Int)->Res) (k0:qG->(List Int×Int)->Res):Res:=
 bif decide (i<n_) then
  bif decide (i<=8) then
   j00 1 e0 λ(r:Int) (bt80:List Int×Int)=>
    j02 r bt80 λ(r1:qB) (bt801:List Int×Int)=>
     j00 1 bt801 λ(r2:Int) (bt802:List Int×Int)=>
      j00 1 bt802 λ(r3:Int) (bt803:List Int×Int)=>
       j00 1 bt803 λ(r4:Int) (bt804:List Int×Int)=>
        j11 bt804 λ(r5:Int×Int×qB) (bt805:List Int×Int)=>
         bif lim ((List.length d.2.2.1)+1) then
          rec (Z8o (i+1)) (d.1,d.2.1,(d.2.2.1++[(r1,r2,(r3==1),(r4==1),r5)]),d.2.2.2) bt805
         else none
  else
   k0 d e0
 else
  k0 d e0
noncomputable def j1N (n_:Int):(Int×qG×(List Int×Int))->(Int×qG×(List Int×Int)->Res)->((qG->(List Int×Int)->Res))->Res:=λv rec q=>j0H n_ v.1 v.2.1 v.2.2 (λi d e0=>rec (i,d,e0)) q
noncomputable def j2J (n_:Int) (n:Nat) (i:Int) (d:qG) (e0:List Int×Int) (k0:qG->(List Int×Int)->Res):Res:=Z14 (j1N n_) n (i,d,e0) (k0)
noncomputable def j1l:Z1q Unit:=λσ k=>rdN σ 80<|rdT σ 0 (pB 80)<|rdT σ 4 (pB 4)<|rdT σ 5 (pB 5)<|rdI σ 6 λn_=>rdI σ 7 λi=>rdB σ 4 y14 [.O,.O] λa t4=>rdB σ 5 y14 [.O,.O] λa1 d=>rdB σ 80 y21 [.S] λa2 e0=>j2J n_ Z12 i d e0 (λ(d1:qG) (e01:List Int×Int)=>k (.exit 0) (mkS 80 81 [(0,pB 80),(4,pB 4),(5,pB 5)] [(4,⟨y14,a,t4,[.O,.O]⟩),(5,⟨y14,a1,d1,[.O,.O]⟩),(80,⟨y21,a2,e01,[.S]⟩)]))
theorem j8b {W0:Base} {M:Nat->Prop} (hnp:W0.np<=0):Z22 Try.prog W0 M (cAt 122 (bo Try.f44)) j1l:=j0f follows j01 j2Q hnp [] oN [0,4,5,6,7] [4,5,80] ([],[]) [(0,[0,4,5],[4,5,80])] ([],[]) λσ k _ h=>rN h λhn h=>rT h λh0 h=>rT h λh4 h=>rT h λh5 h=>rV h λn_ h6 h=>rV h λi h7 h=>rB h λa t4 hb4 h=>rB h λa1 d hb5 h=>rB h λa2 e0 hb80 h=>⟨_,Z9m (m:=81) hn (sC h0 (sC h4 (sC h5 (sC h6 (sC h7 sN))))) (bC hb4 (bC hb5 (bC hb80 bN))),.trans (Z88 (λv:Int×qG×(List Int×Int)=>(mkS 80 81 [(0,pB 80),(4,pB 4),(5,pB 5),(6,vI n_),(7,vI v.1)] [(4,⟨y14,a,t4,[.O,.O]⟩),(5,⟨y14,a1,v.2.1,[.O,.O]⟩),(80,⟨y21,a2,v.2.2,[.S]⟩)])) (j1N n_) (λ(k:Z6O Unit)=>(((λ(d1:qG) (e01:List Int×Int)=>k (.exit 0) (mkS 80 81 [(0,pB 80),(4,pB 4),(5,pB 5)] [(4,⟨y14,a,t4,[.O,.O]⟩),(5,⟨y14,a1,d1,[.O,.O]⟩),(80,⟨y21,a2,e01,[.S]⟩)]))):(qG->(List Int×Int)->Res))) (λv rec k=>by delta j1N j0H j0n j0G j4T;refine gz j00 λ_ e=> ?_;rewrite [<-e];refine gz j02 λ_ e=> ?_;rewrite [<-e];refine gz j11 λ_ e=> ?_;rewrite [<-e];kernel_rfl) Z12 (i,d,e0) k) h⟩
noncomputable def j2L (d:qG) (e0:List Int×Int) (k0:qG->(List Int×Int)->Res):Res:=
 Z6T
  (Z6T
   (Z6T
    (j00 1 e0 λ(r:Int) (bt80:List Int×Int)=>
     j02 r bt80 λ(r1:qB) (bt801:List Int×Int)=>
      bif lim ((List.length d.2.2.2.1)+1) then
       k0 (d.1,d.2.1,d.2.2.1,(d.2.2.2.1++[r1]),d.2.2.2.2) bt801
      else none)
    (Z6T
     (j00 1 e0 λ(r2:Int) (bt802:List Int×Int)=>
      j02 r2 bt802 λ(r3:qB) (bt803:List Int×Int)=>
       bif lim ((List.length d.2.2.2.1)+1) then
        k0 (d.1,d.2.1,d.2.2.1,(d.2.2.2.1++[r3]),d.2.2.2.2) bt803
       else none)
     (j00 1 e0 λ(r4:Int) (bt804:List Int×Int)=>
      j02 r4 bt804 λ(r5:qB) (bt805:List Int×Int)=>
       bif lim ((List.length d.2.2.2.1)+1) then
        k0 (d.1,d.2.1,d.2.2.1,(d.2.2.2.1++[r5]),d.2.2.2.2) bt805
       else none)))
   (Z6T
    (Z6T
     (j00 1 e0 λ(r6:Int) (bt806:List Int×Int)=>
      j02 r6 bt806 λ(r7:qB) (bt807:List Int×Int)=>
       bif lim ((List.length d.2.2.2.1)+1) then
        k0 (d.1,d.2.1,d.2.2.1,(d.2.2.2.1++[r7]),d.2.2.2.2) bt807
       else none)
     (Z6T
      (j00 1 e0 λ(r8:Int) (bt808:List Int×Int)=>
       j02 r8 bt808 λ(r9:qB) (bt809:List Int×Int)=>
        bif lim ((List.length d.2.2.2.1)+1) then
         k0 (d.1,d.2.1,d.2.2.1,(d.2.2.2.1++[r9]),d.2.2.2.2) bt809
        else none)
      (j00 1 e0 λ(r10:Int) (bt8010:List Int×Int)=>
       Z6T
        (j02 r10 bt8010 λ(r11:qB) (bt8011:List Int×Int)=>
         bif lim ((List.length d.2.2.2.1)+1) then
          k0 (d.1,d.2.1,d.2.2.1,(d.2.2.2.1++[r11]),d.2.2.2.2) bt8011
         else none)
        (j02 r10 bt8010 λ(r12:qB) (bt8012:List Int×Int)=>
         bif lim ((List.length d.2.2.2.1)+1) then
          k0 (d.1,d.2.1,d.2.2.1,(d.2.2.2.1++[r12]),d.2.2.2.2) bt8012
         else none))))
    (Z6T
     (Z6T
      (j00 1 e0 λ(r13:Int) (bt8013:List Int×Int)=>
       j02 r13 bt8013 λ(r14:qB) (bt8014:List Int×Int)=>
        bif lim ((List.length d.2.2.2.1)+1) then
         k0 (d.1,d.2.1,d.2.2.1,(d.2.2.2.1++[r14]),d.2.2.2.2) bt8014
        else none)
      (j00 1 e0 λ(r15:Int) (bt8015:List Int×Int)=>
       j02 r15 bt8015 λ(r16:qB) (bt8016:List Int×Int)=>
        bif lim ((List.length d.2.2.2.1)+1) then
         k0 (d.1,d.2.1,d.2.2.1,(d.2.2.2.1++[r16]),d.2.2.2.2) bt8016
        else none))
     (Z6T
      (Z6T
       (j00 1 e0 λ(r17:Int) (bt8017:List Int×Int)=>
        j02 r17 bt8017 λ(r18:qB) (bt8018:List Int×Int)=>
         bif lim ((List.length d.2.2.2.1)+1) then
          k0 (d.1,d.2.1,d.2.2.1,(d.2.2.2.1++[r18]),d.2.2.2.2) bt8018
         else none)
       (j00 1 e0 λ(r19:Int) (bt8019:List Int×Int)=>
        Z6T
         (j02 r19 bt8019 λ(r20:qB) (bt8020:List Int×Int)=>
          bif lim ((List.length d.2.2.2.1)+1) then
           k0 (d.1,d.2.1,d.2.2.1,(d.2.2.2.1++[r20]),d.2.2.2.2) bt8020
          else none)
         (j02 r19 bt8019 λ(r21:qB) (bt8021:List Int×Int)=>
          bif lim ((List.length d.2.2.2.1)+1) then
           k0 (d.1,d.2.1,d.2.2.1,(d.2.2.2.1++[r21]),d.2.2.2.2) bt8021
          else none)))
      (j00 1 e0 λ(r22:Int) (bt8022:List Int×Int)=>
       Z6T
        (j02 r22 bt8022 λ(r23:qB) (bt8023:List Int×Int)=>
         bif lim ((List.length d.2.2.2.1)+1) then
          k0 (d.1,d.2.1,d.2.2.1,(d.2.2.2.1++[r23]),d.2.2.2.2) bt8023
         else none)
        (j02 r22 bt8022 λ(r24:qB) (bt8024:List Int×Int)=>
         bif lim ((List.length d.2.2.2.1)+1) then
          k0 (d.1,d.2.1,d.2.2.1,(d.2.2.2.1++[r24]),d.2.2.2.2) bt8024
         else none))))))
  (Z6T
   (Z6T
    (Z6T
     (j00 1 e0 λ(r25:Int) (bt8025:List Int×Int)=>
      j02 r25 bt8025 λ(r26:qB) (bt8026:List Int×Int)=>
       bif lim ((List.length d.2.2.2.1)+1) then
        k0 (d.1,d.2.1,d.2.2.1,(d.2.2.2.1++[r26]),d.2.2.2.2) bt8026
       else none)
     (Z6T
      (j00 1 e0 λ(r27:Int) (bt8027:List Int×Int)=>
       j02 r27 bt8027 λ(r28:qB) (bt8028:List Int×Int)=>
        bif lim ((List.length d.2.2.2.1)+1) then
         k0 (d.1,d.2.1,d.2.2.1,(d.2.2.2.1++[r28]),d.2.2.2.2) bt8028
        else none)
      (j00 1 e0 λ(r29:Int) (bt8029:List Int×Int)=>
       Z6T
        (j02 r29 bt8029 λ(r30:qB) (bt8030:List Int×Int)=>
         bif lim ((List.length d.2.2.2.1)+1) then
          k0 (d.1,d.2.1,d.2.2.1,(d.2.2.2.1++[r30]),d.2.2.2.2) bt8030
         else none)
        (j02 r29 bt8029 λ(r31:qB) (bt8031:List Int×Int)=>
         bif lim ((List.length d.2.2.2.1)+1) then
          k0 (d.1,d.2.1,d.2.2.1,(d.2.2.2.1++[r31]),d.2.2.2.2) bt8031
         else none))))
    (Z6T
     (Z6T
      (j00 1 e0 λ(r32:Int) (bt8032:List Int×Int)=>
       j02 r32 bt8032 λ(r33:qB) (bt8033:List Int×Int)=>
        bif lim ((List.length d.2.2.2.1)+1) then
         k0 (d.1,d.2.1,d.2.2.1,(d.2.2.2.1++[r33]),d.2.2.2.2) bt8033
        else none)
      (j00 1 e0 λ(r34:Int) (bt8034:List Int×Int)=>
       Z6T
        (j02 r34 bt8034 λ(r35:qB) (bt8035:List Int×Int)=>
         bif lim ((List.length d.2.2.2.1)+1) then
          k0 (d.1,d.2.1,d.2.2.1,(d.2.2.2.1++[r35]),d.2.2.2.2) bt8035
         else none)
        (j02 r34 bt8034 λ(r36:qB) (bt8036:List Int×Int)=>
         bif lim ((List.length d.2.2.2.1)+1) then
          k0 (d.1,d.2.1,d.2.2.1,(d.2.2.2.1++[r36]),d.2.2.2.2) bt8036
         else none)))
     (j00 1 e0 λ(r37:Int) (bt8037:List Int×Int)=>
      Z6T
       (Z6T
        (j02 r37 bt8037 λ(r38:qB) (bt8038:List Int×Int)=>
         bif lim ((List.length d.2.2.2.1)+1) then
          k0 (d.1,d.2.1,d.2.2.1,(d.2.2.2.1++[r38]),d.2.2.2.2) bt8038
         else none)
        (j02 r37 bt8037 λ(r39:qB) (bt8039:List Int×Int)=>
         bif lim ((List.length d.2.2.2.1)+1) then
          k0 (d.1,d.2.1,d.2.2.1,(d.2.2.2.1++[r39]),d.2.2.2.2) bt8039
         else none))
       (j02 r37 bt8037 λ(r40:qB) (bt8040:List Int×Int)=>
        bif lim ((List.length d.2.2.2.1)+1) then
         k0 (d.1,d.2.1,d.2.2.1,(d.2.2.2.1++[r40]),d.2.2.2.2) bt8040
        else none))))
   (Z6T
    (Z6T
     (Z6T
      (j00 1 e0 λ(r41:Int) (bt8041:List Int×Int)=>
       j02 r41 bt8041 λ(r42:qB) (bt8042:List Int×Int)=>
        bif lim ((List.length d.2.2.2.1)+1) then
         k0 (d.1,d.2.1,d.2.2.1,(d.2.2.2.1++[r42]),d.2.2.2.2) bt8042
        else none)
      (j00 1 e0 λ(r43:Int) (bt8043:List Int×Int)=>
       j02 r43 bt8043 λ(r44:qB) (bt8044:List Int×Int)=>
        bif lim ((List.length d.2.2.2.1)+1) then
         k0 (d.1,d.2.1,d.2.2.1,(d.2.2.2.1++[r44]),d.2.2.2.2) bt8044
        else none))
     (Z6T
      (Z6T
       (j00 1 e0 λ(r45:Int) (bt8045:List Int×Int)=>
        j02 r45 bt8045 λ(r46:qB) (bt8046:List Int×Int)=>
         bif lim ((List.length d.2.2.2.1)+1) then
          k0 (d.1,d.2.1,d.2.2.1,(d.2.2.2.1++[r46]),d.2.2.2.2) bt8046
         else none)
       (j00 1 e0 λ(r47:Int) (bt8047:List Int×Int)=>
        Z6T
         (j02 r47 bt8047 λ(r48:qB) (bt8048:List Int×Int)=>
          bif lim ((List.length d.2.2.2.1)+1) then
           k0 (d.1,d.2.1,d.2.2.1,(d.2.2.2.1++[r48]),d.2.2.2.2) bt8048
          else none)
         (j02 r47 bt8047 λ(r49:qB) (bt8049:List Int×Int)=>
          bif lim ((List.length d.2.2.2.1)+1) then
           k0 (d.1,d.2.1,d.2.2.1,(d.2.2.2.1++[r49]),d.2.2.2.2) bt8049
          else none)))
      (j00 1 e0 λ(r50:Int) (bt8050:List Int×Int)=>
       Z6T
        (j02 r50 bt8050 λ(r51:qB) (bt8051:List Int×Int)=>
         bif lim ((List.length d.2.2.2.1)+1) then
          k0 (d.1,d.2.1,d.2.2.1,(d.2.2.2.1++[r51]),d.2.2.2.2) bt8051
         else none)
        (j02 r50 bt8050 λ(r52:qB) (bt8052:List Int×Int)=>
         bif lim ((List.length d.2.2.2.1)+1) then
          k0 (d.1,d.2.1,d.2.2.1,(d.2.2.2.1++[r52]),d.2.2.2.2) bt8052
         else none))))
    (Z6T
     (Z6T
      (Z6T
       (j00 1 e0 λ(r53:Int) (bt8053:List Int×Int)=>
        j02 r53 bt8053 λ(r54:qB) (bt8054:List Int×Int)=>
         bif lim ((List.length d.2.2.2.1)+1) then
          k0 (d.1,d.2.1,d.2.2.1,(d.2.2.2.1++[r54]),d.2.2.2.2) bt8054
         else none)
       (j00 1 e0 λ(r55:Int) (bt8055:List Int×Int)=>
        Z6T
         (j02 r55 bt8055 λ(r56:qB) (bt8056:List Int×Int)=>
          bif lim ((List.length d.2.2.2.1)+1) then
           k0 (d.1,d.2.1,d.2.2.1,(d.2.2.2.1++[r56]),d.2.2.2.2) bt8056
          else none)
         (j02 r55 bt8055 λ(r57:qB) (bt8057:List Int×Int)=>
          bif lim ((List.length d.2.2.2.1)+1) then
           k0 (d.1,d.2.1,d.2.2.1,(d.2.2.2.1++[r57]),d.2.2.2.2) bt8057
          else none)))
      (j00 1 e0 λ(r58:Int) (bt8058:List Int×Int)=>
       Z6T
        (Z6T
         (j02 r58 bt8058 λ(r59:qB) (bt8059:List Int×Int)=>
          bif lim ((List.length d.2.2.2.1)+1) then
           k0 (d.1,d.2.1,d.2.2.1,(d.2.2.2.1++[r59]),d.2.2.2.2) bt8059
          else none)
         (j02 r58 bt8058 λ(r60:qB) (bt8060:List Int×Int)=>
          bif lim ((List.length d.2.2.2.1)+1) then
           k0 (d.1,d.2.1,d.2.2.1,(d.2.2.2.1++[r60]),d.2.2.2.2) bt8060
          else none))
        (j02 r58 bt8058 λ(r61:qB) (bt8061:List Int×Int)=>
         bif lim ((List.length d.2.2.2.1)+1) then
          k0 (d.1,d.2.1,d.2.2.1,(d.2.2.2.1++[r61]),d.2.2.2.2) bt8061
         else none)))
     (j00 1 e0 λ(r62:Int) (bt8062:List Int×Int)=>
      Z6T
       (Z6T
        (j02 r62 bt8062 λ(r63:qB) (bt8063:List Int×Int)=>
         bif lim ((List.length d.2.2.2.1)+1) then
          k0 (d.1,d.2.1,d.2.2.1,(d.2.2.2.1++[r63]),d.2.2.2.2) bt8063
         else none)
        (j02 r62 bt8062 λ(r64:qB) (bt8064:List Int×Int)=>
         bif lim ((List.length d.2.2.2.1)+1) then
          k0 (d.1,d.2.1,d.2.2.1,(d.2.2.2.1++[r64]),d.2.2.2.2) bt8064
         else none))
       (j02 r62 bt8062 λ(r65:qB) (bt8065:List Int×Int)=>
        bif lim ((List.length d.2.2.2.1)+1) then
         k0 (d.1,d.2.1,d.2.2.1,(d.2.2.2.1++[r65]),d.2.2.2.2) bt8065
        else none)))))
noncomputable def j3I:Z1q Unit:=λσ k=>rdN σ 80<|rdT σ 0 (pB 80)<|rdT σ 4 (pB 4)<|rdT σ 5 (pB 5)<|rdI σ 6 λn_=>rdI σ 9 λi=>rdI σ 55 λt55=>rdO σ 56 λt56=>rdB σ 4 y14 [.O,.O] λa t4=>rdB σ 5 y14 [.O,.O] λa1 d=>rdB σ 80 y21 [.S] λa2 e0=>j2L d e0 (λ(d1:qG) (e01:List Int×Int)=>k .normal (mkS 80 81 [(0,pB 80),(4,pB 4),(5,pB 5),(6,vI n_),(9,vI i),(55,vI t55),(56,vB t56)] [(4,⟨y14,a,t4,[.O,.O]⟩),(5,⟨y14,a1,d1,[.O,.O]⟩),(80,⟨y21,a2,e01,[.S]⟩)]))
theorem j8d {W0:Base} {M:Nat->Prop} (hnp:W0.np<=0):Z22 Try.prog W0 M (cAt 4050 (bo Try.f44)) j3I:=j1J follows j01 j2Q hnp [j1l] oN ([0,4,5,6,9,55,56],[4,5,80]) [] ([],[]) λσ k _ h=>rN h λhn h=>rT h λh0 h=>rT h λh4 h=>rT h λh5 h=>rV h λn_ h6 h=>rV h λi h9 h=>rV h λt55 h55 h=>rV h λt56 h56 h=>rB h λa t4 hb4 h=>rB h λa1 d hb5 h=>rB h λa2 e0 hb80 h=>⟨_,Z9m (m:=81) hn (sC h0 (sC h4 (sC h5 (sC h6 (sC h9 (sC h55 (sC h56 sN))))))) (bC hb4 (bC hb5 (bC hb80 bN))),.trans (by delta j2L j0n j0G;refine gz j00 λ_ e=> ?_;rewrite [<-e];refine gz j02 λ_ e=> ?_;rewrite [<-e];kernel_rfl) h⟩
noncomputable def j16 (n_:Int) (i:Int) (d:qG) (e0:List Int×Int) (rec:Int->qG->(List Int×Int)->Res) (k0:qG->(List Int×Int)->Res):Res:=
 bif decide (i<n_) then
  bif decide (i<=8) then
   j2L d e0 λ(d1:qG) (e:List Int×Int)=>
    rec (Z8o (i+1)) d1 e
  else
   k0 d e0
 else
  k0 d e0
noncomputable def j3p (n_:Int):(Int×qG×(List Int×Int))->(Int×qG×(List Int×Int)->Res)->((qG->(List Int×Int)->Res))->Res:=λv rec q=>j16 n_ v.1 v.2.1 v.2.2 (λi d e0=>rec (i,d,e0)) q
noncomputable def j2K (n_:Int) (n:Nat) (i:Int) (d:qG) (e0:List Int×Int) (k0:qG->(List Int×Int)->Res):Res:=Z14 (j3p n_) n (i,d,e0) (k0)
noncomputable def j3H:Z1q Unit:=λσ k=>rdN σ 80<|rdT σ 0 (pB 80)<|rdT σ 4 (pB 4)<|rdT σ 5 (pB 5)<|rdI σ 6 λn_=>rdI σ 9 λi=>rdB σ 4 y14 [.O,.O] λa t4=>rdB σ 5 y14 [.O,.O] λa1 d=>rdB σ 80 y21 [.S] λa2 e0=>j2K n_ Z12 i d e0 (λ(d2:qG) (e01:List Int×Int)=>k (.exit 2) (mkS 80 81 [(0,pB 80),(4,pB 4),(5,pB 5)] [(4,⟨y14,a,t4,[.O,.O]⟩),(5,⟨y14,a1,d2,[.O,.O]⟩),(80,⟨y21,a2,e01,[.S]⟩)]))
theorem j8c {W0:Base} {M:Nat->Prop} (hnp:W0.np<=0):Z22 Try.prog W0 M (cAt 506 (bo Try.f44)) j3H:=j0f follows j01 j2Q hnp [j1l,j3I] (oI 6 1 (j8d) oN) [0,4,5,6,9] [4,5,80] ([],[]) [(2,[0,4,5],[4,5,80])] ([],[]) λσ k _ h=>rN h λhn h=>rT h λh0 h=>rT h λh4 h=>rT h λh5 h=>rV h λn_ h6 h=>rV h λi h9 h=>rB h λa t4 hb4 h=>rB h λa1 d hb5 h=>rB h λa2 e0 hb80 h=>⟨_,Z9m (m:=81) hn (sC h0 (sC h4 (sC h5 (sC h6 (sC h9 sN))))) (bC hb4 (bC hb5 (bC hb80 bN))),.trans (Z88 (λv:Int×qG×(List Int×Int)=>(mkS 80 81 [(0,pB 80),(4,pB 4),(5,pB 5),(6,vI n_),(9,vI v.1)] [(4,⟨y14,a,t4,[.O,.O]⟩),(5,⟨y14,a1,v.2.1,[.O,.O]⟩),(80,⟨y21,a2,v.2.2,[.S]⟩)])) (j3p n_) (λ(k:Z6O Unit)=>(((λ(d2:qG) (e01:List Int×Int)=>k (.exit 2) (mkS 80 81 [(0,pB 80),(4,pB 4),(5,pB 5)] [(4,⟨y14,a,t4,[.O,.O]⟩),(5,⟨y14,a1,d2,[.O,.O]⟩),(80,⟨y21,a2,e01,[.S]⟩)]))):(qG->(List Int×Int)->Res))) (λv rec k=>by kernel_rfl) Z12 (i,d,e0) k) h⟩
noncomputable def j2I (table:qB) (e0:List Int×Int) (k0:qG->(List Int×Int)->Res):Res:=
 j00 1 e0 λ(r:Int) (bt80:List Int×Int)=>
  j00 1 bt80 λ(r1:Int) (bt801:List Int×Int)=>
   j2J r1 Z12 0 (r,table,[],[],eS,eS) bt801 λ(d:qG) (e:List Int×Int)=>
    j00 1 e λ(r2:Int) (bt802:List Int×Int)=>
     j2K r2 Z12 0 d bt802 λ(d1:qG) (e1:List Int×Int)=>
      j00 1 e1 λ(r3:Int) (bt803:List Int×Int)=>
       j02 r3 bt803 λ(r4:qB) (bt804:List Int×Int)=>
        j00 1 bt804 λ(r5:Int) (bt805:List Int×Int)=>
         j02 r5 bt805 λ(r6:qB) (bt806:List Int×Int)=>
          k0 (d1.1,d1.2.1,d1.2.2.1,d1.2.2.2.1,r4,r6) bt806
noncomputable def j6x:Sig Unit:=⟨[.ptr y21,.borrow .str false],[true],λvals ext k=>av vals .str λtable vals=>nl vals<|ab ext y21 [.S] λa e0 ext=>nl ext<|j2I table e0 (λ(r0:qG) (x0:List Int×Int)=>k [⟨y14,true,r0,[.O,.O]⟩] [] [⟨y21,a,x0,[.S]⟩])⟩
theorem j8L:Z1p Try.prog 44 j6x:=j05 (np:=0) follows j01 j2Q [j1l,j3I,j3H] (oI 122 0 (j8b) (oI 506 2 (j8c) oN)) false Try.func44 λ_ _ k _ h=>aV h λ_ _ _ _ _ h=>nL h λ_ h=>aB h λ_ _ _ _ h=>nL h λ_ h=>by subst_vars;exact .trans (by delta j2I j0n j1l j3H j0G;refine gz j00 λ_ e=> ?_;rewrite [<-e];refine gz j2J λ_ e=> ?_;rewrite [<-e];refine gz j2K λ_ e=> ?_;rewrite [<-e];refine gz j02 λ_ e=> ?_;rewrite [<-e];kernel_rfl) h
noncomputable def j6a (s:qB) (k0:(List Int)->Bool->Res):Res:=
 bif sNe s eS then
  j0q s λ(r:Bool)=>
   bif !r then
    k0 [] false
   else
    bif lim (ByteArray.size s) then
     bif lim (1+(List.length (Z1e s))) then
      k0 ([wu8 (nI (ByteArray.size s))]++(Z1e s)) true
     else none
    else none
 else
  bif lim (ByteArray.size s) then
   bif lim (1+(List.length (Z1e s))) then
    k0 ([wu8 (nI (ByteArray.size s))]++(Z1e s)) true
   else none
  else none
noncomputable def j9y:Sig Unit:=⟨[.borrow .str false],[false,false],λvals ext k=>av vals .str λs vals=>nl vals<|nl ext<|j6a s (λ(r0:List Int) (r1:Bool)=>k [w1 y0 r0 .O,wB r1] [] [])⟩
theorem j9l:Z1p Try.prog 152 j9y:=j05 (np:=0) follows j01 (Z8K j3s Z94) [] oN false Try.func152 λ_ _ k _ h=>aV h λ_ _ _ _ _ h=>nL h λ_ h=>nL h λ_ h=>by subst_vars;exact .trans (by kernel_rfl) h
noncomputable def j0C (b:List Int) (s:qB) (k0:(List Int)->Res):Res:=
 j6a s λ(r:List Int) (r1:Bool)=>
  bif lim ((List.length b)+(List.length r)) then
   k0 (b++r)
  else none
noncomputable def j36:Sig Unit:=⟨[.eat y0 false,.borrow .str false],[false],λvals ext k=>ao vals y0 [.O] λb vals=>av vals .str λs vals=>nl vals<|nl ext<|j0C b s (λ(r0:List Int)=>k [w1 y0 r0 .O] [] [])⟩
theorem j7G:Z1p Try.prog 104 j36:=j05 (np:=0) follows j01 (Z8K j9l Z94) [] oN false Try.func104 λ_ _ k _ h=>aO h λ_ _ _ _ h=>aV h λ_ _ _ _ _ h=>nL h λ_ h=>nL h λ_ h=>by subst_vars;exact .trans (by kernel_rfl) h
noncomputable def j29 (size:Int) (p:Int) (i:Int) (rec:Int->Int->Res) (k0:Int->Res):Res:=
 bif decide (i<size) then
  rec (Z8o (p * 256)) (Z8o (i+1))
 else
  k0 p
noncomputable def j5d (size:Int):(Int×Int)->(Int×Int->Res)->((Int->Res))->Res:=λv rec q=>j29 size v.1 v.2 (λp i=>rec (p,i)) q
noncomputable def j6c (size:Int) (n:Nat) (p:Int) (i:Int) (k0:Int->Res):Res:=Z14 (j5d size) n (p,i) (k0)
noncomputable def j7r:Z1q Unit:=λσ k=>rdN σ 13<|rdI σ 0 λsize=>rdI σ 3 λp=>rdI σ 4 λi=>j6c size Z12 p i (λ(p1:Int)=>k (.exit 0) (mkS 13 13 [(3,vI p1)] []))
theorem ja3 {W0:Base} {M:Nat->Prop} (hnp:W0.np<=0):Z22 Try.prog W0 M (cAt 58 (bo Try.f198)) j7r:=j0f follows j01 Z94 hnp [] oN [0,3,4] [] ([],[]) [(0,[3],[])] ([],[]) λσ k _ h=>rN h λhn h=>rV h λsize h0 h=>rV h λp h3 h=>rV h λi h4 h=>⟨_,Z9m (m:=13) hn (sC h0 (sC h3 (sC h4 sN))) bN,.trans (Z88 (λv:Int×Int=>(mkS 13 13 [(0,vI size),(3,vI v.1),(4,vI v.2)] [])) (j5d size) (λ(k:Z6O Unit)=>(((λ(p1:Int)=>k (.exit 0) (mkS 13 13 [(3,vI p1)] []))):(Int->Res))) (λv rec k=>by kernel_rfl) Z12 (p,i) k) h⟩
noncomputable def j4N (size:Int) (k0:Int->Res):Res:=
 j6c size Z12 1 0 λ(p:Int)=>
  k0 p
noncomputable def jb0:Sig Unit:=⟨[.look tI false],[false],λvals ext k=>av vals tI λsize vals=>nl vals<|nl ext<|j4N size (λ(r0:Int)=>k [wI r0] [] [])⟩
theorem j6o:Z1p Try.prog 198 jb0:=j05 (np:=0) follows j01 Z94 [j7r] (oI 58 0 (ja3) oN) false Try.func198 λ_ _ k _ h=>aV h λ_ _ _ _ _ h=>nL h λ_ h=>nL h λ_ h=>by subst_vars;exact .trans (by kernel_rfl) h
noncomputable def j4s (n_:Int) (size:Int) (k0:Bool->Res):Res:=
 bif decide (size<1) then
  k0 true
 else
  bif decide (size>6) then
   k0 true
  else
   bif decide (n_<0) then
    k0 true
   else
    j4N size λ(r:Int)=>
     k0 (decide (n_>=r))
noncomputable def j3P:Z1q Unit:=λσ k=>rdN σ 45<|rd1 σ 0 y0 .S λb=>rdI σ 1 λn_=>rdI σ 2 λsize=>j4s n_ size (λ(t25:Bool)=>k .normal (mkS 45 45 [(0,v1 y0 b .S),(1,vI n_),(2,vI size),(25,vB t25)] []))
theorem j9Y {W0:Base} {M:Nat->Prop} (hnp:W0.np<=0):Z22 Try.prog W0 M (cAt 12 (bo Try.f161)) j3P:=j1J follows j01 (Z8K j6o Z94) hnp [] oN ([0,1,2,25],[]) [] ([],[]) λσ k _ h=>rN h λhn h=>rV h λb h0 h=>rV h λn_ h1 h=>rV h λsize h2 h=>⟨_,Z9m (m:=45) hn (sC h0 (sC h1 (sC h2 sN))) bN,.trans (by kernel_rfl) h⟩
noncomputable def j24 (n_:Int) (out:List Int) (i:Int) (rec:(List Int)->Int->Res) (k0:(List Int)->Res):Res:=
 bif decide (i>=0) then
  j4N i λ(r:Int)=>
   bif !(decide (r=0)) then
    bif lim ((List.length out)+1) then
     rec (out++[wu8 (Int.tmod (Z8o (Int.tdiv n_ r)) 256)]) (Z8o (i-1))
    else none
   else none
 else
  k0 out
noncomputable def j59 (n_:Int):((List Int)×Int)->((List Int)×Int->Res)->(((List Int)->Res))->Res:=λv rec q=>j24 n_ v.1 v.2 (λout i=>rec (out,i)) q
noncomputable def j4r (n_:Int) (n:Nat) (out:List Int) (i:Int) (k0:(List Int)->Res):Res:=Z14 (j59 n_) n (out,i) (k0)
noncomputable def j5Q:Z1q Unit:=λσ k=>rdN σ 45<|rdI σ 1 λn_=>rd1 σ 8 y0 .O λout=>rdI σ 9 λi=>j4r n_ Z12 out i (λ(out1:List Int)=>k (.exit 0) (mkS 45 45 [(8,v1 y0 out1 .O)] []))
theorem j9X {W0:Base} {M:Nat->Prop} (hnp:W0.np<=0):Z22 Try.prog W0 M (cAt 122 (bo Try.f161)) j5Q:=j0f follows j01 (Z8K j6o Z94) hnp [j3P] oN [1,8,9] [] ([],[]) [(0,[8],[])] ([],[]) λσ k _ h=>rN h λhn h=>rV h λn_ h1 h=>rV h λout h8 h=>rV h λi h9 h=>⟨_,Z9m (m:=45) hn (sC h1 (sC h8 (sC h9 sN))) bN,.trans (Z88 (λv:(List Int)×Int=>(mkS 45 45 [(1,vI n_),(8,v1 y0 v.1 .O),(9,vI v.2)] [])) (j59 n_) (λ(k:Z6O Unit)=>(((λ(out1:List Int)=>k (.exit 0) (mkS 45 45 [(8,v1 y0 out1 .O)] []))):((List Int)->Res))) (λv rec k=>by kernel_rfl) Z12 (out,i) k) h⟩
noncomputable def j1P (b:List Int) (n_:Int) (size:Int) (k0:(List Int)->Bool->Res):Res:=
 j4s n_ size λ(t:Bool)=>
  bif t then
   k0 [] false
  else
   bif lim (0+(List.length b)) then
    j4r n_ Z12 b (Z8o (size-1)) λ(out:List Int)=>
     k0 out true
   else none
noncomputable def j6s:Sig Unit:=⟨[.borrow y0 false,.borrow tI false,.borrow tI false],[false,false],λvals ext k=>av vals y0 λb vals=>av vals tI λn_ vals=>av vals tI λsize vals=>nl vals<|nl ext<|j1P b n_ size (λ(r0:List Int) (r1:Bool)=>k [w1 y0 r0 .O,wB r1] [] [])⟩
theorem jaP:Z1p Try.prog 161 j6s:=j05 (np:=0) follows j01 (Z8K j6o Z94) [j3P,j5Q] (oI 12 0 (j9Y) (oI 122 1 (j9X) oN)) false Try.func161 λ_ _ k _ h=>aV h λ_ _ _ _ _ h=>aV h λ_ _ _ _ _ h=>aV h λ_ _ _ _ _ h=>nL h λ_ h=>nL h λ_ h=>by subst_vars;exact .trans (by delta j1P j3P j5Q;refine gz j4s λ_ e=> ?_;rewrite [<-e];refine gz j4r λ_ e=> ?_;rewrite [<-e];kernel_rfl) h
theorem j79:Fns Try.prog [(161,j6s),(190,j5C)]:=(Z8K jaP (Z8K j5n Z94))
noncomputable def j26 (n_:Int) (sign:Int) (t29:Bool) (k0:Int->Int->Res):Res:=
 bif t29 then
  k0 (Z8o (0-n_)) 1
 else
  k0 n_ sign
noncomputable def j4G:Z1q Unit:=λσ k=>rdN σ 54<|rd1 σ 4 y0 .O λb=>rdI σ 5 λn_=>rdV σ 6 (.int .u8) false [] λsign=>rdO σ 29 λt29=>j26 n_ sign t29 (λ(n_1:Int) (sign1:Int)=>k .normal (mkS 54 54 [(4,v1 y0 b .O),(5,vI n_1),(6,.val ⟨(.int .u8),false,sign1,[]⟩)] []))
theorem j91 {W0:Base} {M:Nat->Prop} (hnp:W0.np<=0):Z22 Try.prog W0 M (cAt 31469 (bo Try.f153)) j4G:=j1J follows j01 j79 hnp [] oN ([4,5,6],[]) [] ([],[]) λσ k _ h=>rN h λhn h=>rV h λb h4 h=>rV h λn_ h5 h=>rV h λsign h6 h=>rV h λt29 h29 h=>⟨_,Z9m (m:=54) hn (sC h4 (sC h5 (sC h6 (sC h29 sN)))) bN,.trans (by kernel_rfl) h⟩
noncomputable def j1y (v_:Int×Int×qB) (k0:(List Int)->Bool->Res):Res:=
 j2H v_ λ(r:Bool)=>
  bif !r then
   k0 [] false
  else
   bif (v_.1==1) then
    k0 [wu8 v_.1,wu8 v_.2.1] true
   else
    bif (v_.1==2) then
     j26 v_.2.1 0 (decide (v_.2.1<0)) λ(n_:Int) (sign:Int)=>
      j1P [wu8 v_.1,sign] n_ 6 λ(r1:List Int) (r2:Bool)=>
       k0 r1 r2
    else
     bif (v_.1==3) then
      Z6T
       (Z6T
        (bif lim (ByteArray.size v_.2.2) then
         bif lim (2+(List.length (Z1e v_.2.2))) then
          k0 ([wu8 v_.1,wu8 (nI (ByteArray.size v_.2.2))]++(Z1e v_.2.2)) true
         else none
        else none)
        (bif lim (ByteArray.size v_.2.2) then
         bif lim (2+(List.length (Z1e v_.2.2))) then
          k0 ([wu8 v_.1,wu8 (nI (ByteArray.size v_.2.2))]++(Z1e v_.2.2)) true
         else none
        else none))
       (bif lim (ByteArray.size v_.2.2) then
        bif lim (2+(List.length (Z1e v_.2.2))) then
         k0 ([wu8 v_.1,wu8 (nI (ByteArray.size v_.2.2))]++(Z1e v_.2.2)) true
        else none
       else none)
     else
      k0 [wu8 v_.1] true
noncomputable def j5B:Sig Unit:=⟨[.borrow y2 true],[false,false],λvals ext k=>av vals y2 λv_ vals=>nl vals<|nl ext<|j1y v_ (λ(r0:List Int) (r1:Bool)=>k [w1 y0 r0 .O,wB r1] [] [])⟩
theorem j5m:Z1p Try.prog 153 j5B:=j05 (np:=0) follows j01 j79 [j4G] (oI 31469 0 (j91) oN) false Try.func153 λ_ _ k _ h=>aV h λ_ _ _ _ _ h=>nL h λ_ h=>nL h λ_ h=>by subst_vars;exact .trans (by delta j1y j5C j4G j6s;refine gz j2H λ_ e=> ?_;rewrite [<-e];refine gz j26 λ_ e=> ?_;rewrite [<-e];refine gz j1P λ_ e=> ?_;rewrite [<-e];kernel_rfl) h
noncomputable def j1t (t16:List qV) (t17:Int) (b:List Int) (t18:Int) (rec:(List Int)->Int->Res) (k0:(List Int)->Res) (k1:Unit->Res):Res:=
 bif decide (t18<t17) then
  bif inb t18 (List.length t16) then
   j1y (nth (0,0,eS) t16 t18) λ(r:List Int) (r1:Bool)=>
    bif !r1 then
     k1 ()
    else
     bif lim ((List.length b)+(List.length r)) then
      rec (b++r) (Z8o (t18+1))
     else none
  else none
 else
  k0 b
noncomputable def j44 (t16:List qV) (t17:Int):((List Int)×Int)->((List Int)×Int->Res)->(((List Int)->Res)×(Unit->Res))->Res:=λv rec q=>j1t t16 t17 v.1 v.2 (λb t18=>rec (b,t18)) q.1 q.2
noncomputable def j5a (t16:List qV) (t17:Int) (n:Nat) (b:List Int) (t18:Int) (k0:(List Int)->Res) (k1:Unit->Res):Res:=Z14 (j44 t16 t17) n (b,t18) (k0,k1)
noncomputable def j6D:Z1q Unit:=λσ k=>rdN σ 34<|rd1 σ 4 y0 .O λb=>rd1 σ 16 y3 .S λt16=>rdI σ 17 λt17=>rdI σ 18 λt18=>j5a t16 t17 Z12 b t18 (λ(b1:List Int)=>k (.exit 0) (mkS 34 34 [(4,v1 y0 b1 .O)] [])) (λ(_:Unit)=>k .ret (mkS 34 34 [(2,v1 y0 [] .O),(3,vB false)] []))
theorem j90 {W0:Base} {M:Nat->Prop} (hnp:W0.np<=0):Z22 Try.prog W0 M (cAt 122 (bo Try.f105)) j6D:=j0f follows j01 (Z8K j5m Z94) hnp [] oN [4,16,17,18] [] ([],[]) [(0,[4],[])] ([2,3],[]) λσ k _ h=>rN h λhn h=>rV h λb h4 h=>rV h λt16 h16 h=>rV h λt17 h17 h=>rV h λt18 h18 h=>⟨_,Z9m (m:=34) hn (sC h4 (sC h16 (sC h17 (sC h18 sN)))) bN,.trans (Z88 (λv:(List Int)×Int=>(mkS 34 34 [(4,v1 y0 v.1 .O),(16,v1 y3 t16 .S),(17,vI t17),(18,vI v.2)] [])) (j44 t16 t17) (λ(k:Z6O Unit)=>(((λ(b1:List Int)=>k (.exit 0) (mkS 34 34 [(4,v1 y0 b1 .O)] [])),(λ(_:Unit)=>k .ret (mkS 34 34 [(2,v1 y0 [] .O),(3,vB false)] []))):((List Int)->Res)×(Unit->Res))) (λv rec k=>by kernel_rfl) Z12 (b,t18) k) h⟩
noncomputable def j2p (l:List qV) (k0:(List Int)->Bool->Res):Res:=
 bif decide ((nI (List.length l))>8) then
  k0 [] false
 else
  j5a l (nI (List.length l)) Z12 [wu8 (nI (List.length l))] 0
   (λ(b:List Int)=>
    k0 b true)
   (λ(_:Unit)=>
    k0 [] false)
noncomputable def j7n:Sig Unit:=⟨[.borrow y3 false],[false,false],λvals ext k=>av vals y3 λl vals=>nl vals<|nl ext<|j2p l (λ(r0:List Int) (r1:Bool)=>k [w1 y0 r0 .O,wB r1] [] [])⟩
theorem j9H:Z1p Try.prog 105 j7n:=j05 (np:=0) follows j01 (Z8K j5m Z94) [j6D] (oI 122 0 (j90) oN) false Try.func105 λ_ _ k _ h=>aV h λ_ _ _ _ _ h=>nL h λ_ h=>nL h λ_ h=>by subst_vars;exact .trans (by kernel_rfl) h
noncomputable def j45 (x:Bool) (k0:Int->Res):Res:=
 bif x then
  k0 1
 else
  k0 0
noncomputable def j67:Sig Unit:=⟨[.look .bool false],[false],λvals ext k=>av vals .bool λx vals=>nl vals<|nl ext<|j45 x (λ(r0:Int)=>k [⟨(.int .u8),false,r0,[]⟩] [] [])⟩
theorem jam:Z1p Try.prog 154 j67:=j05 (np:=0) follows j01 Z94 [] oN false Try.func154 λ_ _ k _ h=>aV h λ_ _ _ _ _ h=>nL h λ_ h=>nL h λ_ h=>by subst_vars;exact .trans (by kernel_rfl) h
theorem j6n:Fns Try.prog [(104,j36),(153,j5B),(154,j67)]:=(Z8K j7G (Z8K j5m (Z8K jam Z94)))
noncomputable def j1n (t22:List qC) (t23:Int) (b:List Int) (t24:Int) (rec:(List Int)->Int->Res) (k0:(List Int)->Res):Res:=
 bif decide (t24<t23) then
  bif inb t24 (List.length t22) then
   j0C b (nth (eS,0,false,false,0,0,eS) t22 t24).1 λ(r:List Int)=>
    j45 (nth (eS,0,false,false,0,0,eS) t22 t24).2.2.1 λ(r1:Int)=>
     j45 (nth (eS,0,false,false,0,0,eS) t22 t24).2.2.2.1 λ(r2:Int)=>
      bif lim ((List.length r)+3) then
       j1y (nth (eS,0,false,false,0,0,eS) t22 t24).2.2.2.2 λ(r3:List Int) (r4:Bool)=>
        bif lim ((List.length (r++[wu8 (nth (eS,0,false,false,0,0,eS) t22 t24).2.1,r1,r2]))+(List.length r3)) then
         rec ((r++[wu8 (nth (eS,0,false,false,0,0,eS) t22 t24).2.1,r1,r2])++r3) (Z8o (t24+1))
        else none
      else none
  else none
 else
  k0 b
noncomputable def j3o (t22:List qC) (t23:Int):((List Int)×Int)->((List Int)×Int->Res)->(((List Int)->Res))->Res:=λv rec q=>j1n t22 t23 v.1 v.2 (λb t24=>rec (b,t24)) q
noncomputable def j3a (t22:List qC) (t23:Int) (n:Nat) (b:List Int) (t24:Int) (k0:(List Int)->Res):Res:=Z14 (j3o t22 t23) n (b,t24) (k0)
noncomputable def j3Q:Z1q Unit:=λσ k=>rdN σ 78<|rd1 σ 0 y0 .O λb=>rdT σ 3 (pB 3)<|rd1 σ 22 y8 .S λt22=>rdI σ 23 λt23=>rdI σ 24 λt24=>rdB σ 3 y14 [.S,.S] λa d=>j3a t22 t23 Z12 b t24 (λ(b1:List Int)=>k (.exit 0) (mkS 78 78 [(0,v1 y0 b1 .O),(3,pB 3)] [(3,⟨y14,a,d,[.S,.S]⟩)]))
theorem ja1 {W0:Base} {M:Nat->Prop} (hnp:W0.np<=0):Z22 Try.prog W0 M (cAt 58 (bo Try.f106)) j3Q:=j0f follows j01 j6n hnp [] oN [0,3,22,23,24] [3] ([],[]) [(0,[0,3],[3])] ([],[]) λσ k _ h=>rN h λhn h=>rV h λb h0 h=>rT h λh3 h=>rV h λt22 h22 h=>rV h λt23 h23 h=>rV h λt24 h24 h=>rB h λa d hb3 h=>⟨_,Z9m (m:=78) hn (sC h0 (sC h3 (sC h22 (sC h23 (sC h24 sN))))) (bC hb3 bN),.trans (Z88 (λv:(List Int)×Int=>(mkS 78 78 [(0,v1 y0 v.1 .O),(3,pB 3),(22,v1 y8 t22 .S),(23,vI t23),(24,vI v.2)] [(3,⟨y14,a,d,[.S,.S]⟩)])) (j3o t22 t23) (λ(k:Z6O Unit)=>(((λ(b1:List Int)=>k (.exit 0) (mkS 78 78 [(0,v1 y0 b1 .O),(3,pB 3)] [(3,⟨y14,a,d,[.S,.S]⟩)]))):((List Int)->Res))) (λv rec k=>by delta j3o j1n j36 j67 j5B;refine gz j0C λ_ e=> ?_;rewrite [<-e];refine gz j45 λ_ e=> ?_;rewrite [<-e];refine gz j1y λ_ e=> ?_;rewrite [<-e];kernel_rfl) Z12 (b,t24) k) h⟩
noncomputable def j28 (t61:qL) (t62:Int) (b:List Int) (t63:Int) (rec:(List Int)->Int->Res) (k0:(List Int)->Res):Res:=
 bif decide (t63<t62) then
  bif inb t63 (List.length t61) then
   j0C b (nth eS t61 t63) λ(r:List Int)=>
    rec r (Z8o (t63+1))
  else none
 else
  k0 b
noncomputable def j5c (t61:qL) (t62:Int):((List Int)×Int)->((List Int)×Int->Res)->(((List Int)->Res))->Res:=λv rec q=>j28 t61 t62 v.1 v.2 (λb t63=>rec (b,t63)) q
noncomputable def j3b (t61:qL) (t62:Int) (n:Nat) (b:List Int) (t63:Int) (k0:(List Int)->Res):Res:=Z14 (j5c t61 t62) n (b,t63) (k0)
noncomputable def j5S:Z1q Unit:=λσ k=>rdN σ 78<|rd1 σ 0 y0 .O λb=>rdT σ 3 (pB 3)<|rd1 σ 61 y9 .S λt61=>rdI σ 62 λt62=>rdI σ 63 λt63=>rdB σ 3 y14 [.S,.S] λa d=>j3b t61 t62 Z12 b t63 (λ(b1:List Int)=>k (.exit 2) (mkS 78 78 [(0,v1 y0 b1 .O),(3,pB 3)] [(3,⟨y14,a,d,[.S,.S]⟩)]))
theorem ja2 {W0:Base} {M:Nat->Prop} (hnp:W0.np<=0):Z22 Try.prog W0 M (cAt 250 (bo Try.f106)) j5S:=j0f follows j01 j6n hnp [j3Q] oN [0,3,61,62,63] [3] ([],[]) [(2,[0,3],[3])] ([],[]) λσ k _ h=>rN h λhn h=>rV h λb h0 h=>rT h λh3 h=>rV h λt61 h61 h=>rV h λt62 h62 h=>rV h λt63 h63 h=>rB h λa d hb3 h=>⟨_,Z9m (m:=78) hn (sC h0 (sC h3 (sC h61 (sC h62 (sC h63 sN))))) (bC hb3 bN),.trans (Z88 (λv:(List Int)×Int=>(mkS 78 78 [(0,v1 y0 v.1 .O),(3,pB 3),(61,v1 y9 t61 .S),(62,vI t62),(63,vI v.2)] [(3,⟨y14,a,d,[.S,.S]⟩)])) (j5c t61 t62) (λ(k:Z6O Unit)=>(((λ(b1:List Int)=>k (.exit 2) (mkS 78 78 [(0,v1 y0 b1 .O),(3,pB 3)] [(3,⟨y14,a,d,[.S,.S]⟩)]))):((List Int)->Res))) (λv rec k=>by kernel_rfl) Z12 (b,t63) k) h⟩
noncomputable def j4M (b:List Int) (d:qG) (k0:(List Int)->Res):Res:=
 bif lim ((List.length b)+2) then
  j3a d.2.2.1 (nI (List.length d.2.2.1)) Z12 (b++[wu8 d.1,wu8 (nI (List.length d.2.2.1))]) 0 λ(b1:List Int)=>
   bif lim ((List.length b1)+1) then
    j3b d.2.2.2.1 (nI (List.length d.2.2.2.1)) Z12 (b1++[wu8 (nI (List.length d.2.2.2.1))]) 0 λ(b2:List Int)=>
     j0C b2 d.2.2.2.2.1 λ(r:List Int)=>
      j0C r d.2.2.2.2.2 λ(r1:List Int)=>
       k0 r1
   else none
 else none
noncomputable def j89:Sig Unit:=⟨[.eat y0 false,.borrow y14 true],[false],λvals ext k=>ao vals y0 [.O] λb vals=>av vals y14 λd vals=>nl vals<|nl ext<|j4M b d (λ(r0:List Int)=>k [w1 y0 r0 .O] [] [])⟩
theorem jaS:Z1p Try.prog 106 j89:=j05 (np:=0) follows j01 j6n [j3Q,j5S] (oI 58 0 (ja1) (oI 250 1 (ja2) oN)) false Try.func106 λ_ _ k _ h=>aO h λ_ _ _ _ h=>aV h λ_ _ _ _ _ h=>nL h λ_ h=>nL h λ_ h=>by subst_vars;exact .trans (by delta j4M j3Q j5S j36;refine gz j3a λ_ e=> ?_;rewrite [<-e];refine gz j3b λ_ e=> ?_;rewrite [<-e];refine gz j0C λ_ e=> ?_;rewrite [<-e];kernel_rfl) h
noncomputable def j0Z (s:qS) (k0:(List Int)->Bool->Res):Res:=
 j3B s λ(r:Bool)=>
  bif !r then
   k0 [] false
  else
   j0C [83,wu8 s.1] s.2.1 λ(r1:List Int)=>
    j2p s.2.2.1 λ(r2:List Int) (r3:Bool)=>
     j2p s.2.2.2.1 λ(r4:List Int) (r5:Bool)=>
      bif lim ((List.length r1)+(List.length r2)) then
       bif lim ((List.length (r1++r2))+(List.length r4)) then
        bif (s.1==5) then
         j4M ((r1++r2)++r4) s.2.2.2.2 λ(r6:List Int)=>
          k0 r6 true
        else
         k0 ((r1++r2)++r4) true
       else none
      else none
noncomputable def j57:Sig Unit:=⟨[.borrow y18 true],[false,false],λvals ext k=>av vals y18 λs vals=>nl vals<|nl ext<|j0Z s (λ(r0:List Int) (r1:Bool)=>k [w1 y0 r0 .O,wB r1] [] [])⟩
theorem j9k:Z1p Try.prog 45 j57:=j05 (np:=0) follows j01 (Z8K jaQ (Z8K j7G (Z8K j9H (Z8K jaS Z94)))) [] oN false Try.func45 λ_ _ k _ h=>aV h λ_ _ _ _ _ h=>nL h λ_ h=>nL h λ_ h=>by subst_vars;exact .trans (by delta j0Z j88 j36 j7n j89;refine gz j3B λ_ e=> ?_;rewrite [<-e];refine gz j0C λ_ e=> ?_;rewrite [<-e];refine gz j2p λ_ e=> ?_;rewrite [<-e];refine gz j4M λ_ e=> ?_;rewrite [<-e];kernel_rfl) h
theorem j78:Fns Try.prog [(41,j0n),(42,j0G),(43,j68),(44,j6x),(45,j57)]:=(Z8K j4b (Z8K j5W (Z8K jan (Z8K j8L (Z8K j9k Z94)))))
noncomputable def j25 (t28:Bool) (s:qS) (t10:List Int×Int) (k0:qS->Res):Res:=
 bif t28 then
  j2I s.2.1 t10 λ(r:qG) (bt10:List Int×Int)=>
   k0 (s.1,s.2.1,s.2.2.1,s.2.2.2.1,r)
 else
  k0 s
noncomputable def j4F:Z1q Unit:=λσ k=>rdN σ 50<|rd1 σ 0 y0 .S λb=>rdT σ 2 (pB 2)<|rdT σ 4 (pB 10)<|rdT σ 5 (pB 5)<|rdO σ 28 λt28=>rdB σ 2 y18 [.O,.O,.O,.O] λa t2=>rdB σ 5 y18 [.O,.O,.O,.O] λa1 s=>rdB σ 10 y21 [.S] λa2 t10=>j25 t28 s t10 (λ(s1:qS)=>k .normal (mkS 50 50 [(0,v1 y0 b .S),(2,pB 2),(5,pB 5)] [(2,⟨y18,a,t2,[.O,.O,.O,.O]⟩),(5,⟨y18,a1,s1,[.O,.O,.O,.O]⟩)]))
theorem j8Z {W0:Base} {M:Nat->Prop} (hnp:W0.np<=0):Z22 Try.prog W0 M (cAt 509 (bo Try.f8)) j4F:=j1J follows j01 j78 hnp [] oN ([0,2,5],[2,5]) [] ([],[]) λσ k _ h=>rN h λhn h=>rV h λb h0 h=>rT h λh2 h=>rT h λh4 h=>rT h λh5 h=>rV h λt28 h28 h=>rB h λa t2 hb2 h=>rB h λa1 s hb5 h=>rB h λa2 t10 hb10 h=>⟨_,Z9m (m:=50) hn (sC h0 (sC h2 (sC h4 (sC h5 (sC h28 sN))))) (bC hb2 (bC hb5 (bC hb10 bN))),.trans (by kernel_rfl) h⟩
noncomputable def j1e (b:List Int) (k0:qS->Bool->Res):Res:=
 j00 1 (b,1) λ(r:Int) (bt10:List Int×Int)=>
  j00 1 bt10 λ(r1:Int) (bt101:List Int×Int)=>
   j02 r1 bt101 λ(r2:qB) (bt102:List Int×Int)=>
    j3c bt102 λ(r3:List qV) (bt103:List Int×Int)=>
     j3c bt103 λ(r4:List qV) (bt104:List Int×Int)=>
      j25 (r==5) (r,r2,r3,r4,0,eS,[],[],eS,eS) bt104 λ(s:qS)=>
       j0Z s λ(r5:List Int) (r6:Bool)=>
        bif !r6 then
         k0 (0,eS,[],[],0,eS,[],[],eS,eS) false
        else
         bif sNe (Z34 r5) (Z34 b) then
          k0 (0,eS,[],[],0,eS,[],[],eS,eS) false
         else
          k0 s true
noncomputable def j5A:Sig Unit:=⟨[.borrow y0 false],[true,false],λvals ext k=>av vals y0 λb vals=>nl vals<|nl ext<|j1e b (λ(r0:qS) (r1:Bool)=>k [⟨y18,true,r0,[.O,.O,.O,.O]⟩,wB r1] [] [])⟩
theorem j9G:Z1p Try.prog 8 j5A:=j05 (np:=0) follows j01 j78 [j4F] (oI 509 0 (j8Z) oN) false Try.func8 λ_ _ k _ h=>aV h λ_ _ _ _ _ h=>nL h λ_ h=>nL h λ_ h=>by subst_vars;exact .trans (by delta j1e j0n j0G j68 j4F j57;refine gz j00 λ_ e=> ?_;rewrite [<-e];refine gz j02 λ_ e=> ?_;rewrite [<-e];refine gz j3c λ_ e=> ?_;rewrite [<-e];refine gz j25 λ_ e=> ?_;rewrite [<-e];refine gz j0Z λ_ e=> ?_;rewrite [<-e];kernel_rfl) h
noncomputable def j1S (t34:List Int) (t35:Int) (n_:Int) (t36:Int) (rec:Int->Int->Res) (k0:Int->Res):Res:=
 bif decide (t36<t35) then
  bif inb t36 (List.length t34) then
   rec (orI .i64 (Z9u .i64 n_ 8) (Z8o (nth 0 t34 t36))) (Z8o (t36+1))
  else none
 else
  k0 n_
noncomputable def j4W (t34:List Int) (t35:Int):(Int×Int)->(Int×Int->Res)->((Int->Res))->Res:=λv rec q=>j1S t34 t35 v.1 v.2 (λn_ t36=>rec (n_,t36)) q
noncomputable def j4e (t34:List Int) (t35:Int) (n:Nat) (n_:Int) (t36:Int) (k0:Int->Res):Res:=Z14 (j4W t34 t35) n (n_,t36) (k0)
noncomputable def j5J:Z1q Unit:=λσ k=>rdN σ 47<|rdI σ 8 λn_=>rd1 σ 34 y0 .S λt34=>rdI σ 35 λt35=>rdI σ 36 λt36=>j4e t34 t35 Z12 n_ t36 (λ(n_1:Int)=>k (.exit 0) (mkS 47 47 [(8,vI n_1)] []))
theorem j9Q {W0:Base} {M:Nat->Prop} (hnp:W0.np<=0):Z22 Try.prog W0 M (cAt 122 (bo Try.f107)) j5J:=j0f follows j01 (Z8K j1c Z94) hnp [] oN [8,34,35,36] [] ([],[]) [(0,[8],[])] ([],[]) λσ k _ h=>rN h λhn h=>rV h λn_ h8 h=>rV h λt34 h34 h=>rV h λt35 h35 h=>rV h λt36 h36 h=>⟨_,Z9m (m:=47) hn (sC h8 (sC h34 (sC h35 (sC h36 sN)))) bN,.trans (Z88 (λv:Int×Int=>(mkS 47 47 [(8,vI v.1),(34,v1 y0 t34 .S),(35,vI t35),(36,vI v.2)] [])) (j4W t34 t35) (λ(k:Z6O Unit)=>(((λ(n_1:Int)=>k (.exit 0) (mkS 47 47 [(8,vI n_1)] []))):(Int->Res))) (λv rec k=>by kernel_rfl) Z12 (n_,t36) k) h⟩
noncomputable def j4J (b:List Int) (at_:Int) (size:Int) (k0:Int->Bool->Res):Res:=
 j0e size 1 6 λ(r:Bool)=>
  bif !r then
   k0 0 false
  else
   j0e at_ 0 (nI (List.length b)) λ(r1:Bool)=>
    bif !r1 then
     k0 0 false
    else
     bif decide ((Z8o ((nI (List.length b))-at_))<size) then
      k0 0 false
     else
      bif Z6Z at_ (Z8o (at_+size)) (List.length b) then
       j4e (sub b at_ (Z8o (at_+size))) (nI (List.length (sub b at_ (Z8o (at_+size))))) Z12 0 0 λ(n_:Int)=>
        k0 n_ true
      else none
noncomputable def jaX:Sig Unit:=⟨[.look y0 false,.look tI false,.look tI false],[false,false],λvals ext k=>av vals y0 λb vals=>av vals tI λat_ vals=>av vals tI λsize vals=>nl vals<|nl ext<|j4J b at_ size (λ(r0:Int) (r1:Bool)=>k [wI r0,wB r1] [] [])⟩
theorem jaK:Z1p Try.prog 107 jaX:=j05 (np:=0) follows j01 (Z8K j1c Z94) [j5J] (oI 122 0 (j9Q) oN) false Try.func107 λ_ _ k _ h=>aV h λ_ _ _ _ _ h=>aV h λ_ _ _ _ _ h=>aV h λ_ _ _ _ _ h=>nL h λ_ h=>nL h λ_ h=>by subst_vars;exact .trans (by delta j4J j1d j5J;refine gz j0e λ_ e=> ?_;rewrite [<-e];refine gz j4e λ_ e=> ?_;rewrite [<-e];kernel_rfl) h
noncomputable def j07 (size:Int) (e0:List Int×Int×Bool) (k0:Int->(List Int×Int×Bool)->Res):Res:=
 j4J e0.1 e0.2.1 size λ(r:Int) (r1:Bool)=>
  bif e0.2.2 then
   k0 0 (e0.1,e0.2.1,true)
  else
   bif !r1 then
    k0 0 (e0.1,e0.2.1,true)
   else
    k0 r (e0.1,Z8o (e0.2.1+size),e0.2.2)
noncomputable def j0x:Sig Unit:=⟨[.ptr y23,.borrow tI false],[false],λvals ext k=>av vals tI λsize vals=>nl vals<|ab ext y23 [.S] λa e0 ext=>nl ext<|j07 size e0 (λ(r0:Int) (x0:List Int×Int×Bool)=>k [wI r0] [] [⟨y23,a,x0,[.S]⟩])⟩
theorem j3J:Z1p Try.prog 46 j0x:=j05 (np:=0) follows j01 (Z8K jaK Z94) [] oN false Try.func46 λ_ _ k _ h=>aV h λ_ _ _ _ _ h=>nL h λ_ h=>aB h λ_ _ _ _ h=>nL h λ_ h=>by subst_vars;exact .trans (by kernel_rfl) h
noncomputable def j0F (n_:Int) (e0:List Int×Int×Bool) (k0:(List Int)->(List Int×Int×Bool)->Res):Res:=
 bif e0.2.2 then
  k0 [] (e0.1,e0.2.1,true)
 else
  bif decide (n_>(Z8o ((nI (List.length e0.1))-e0.2.1))) then
   k0 [] (e0.1,e0.2.1,true)
  else
   bif Z6Z (Z8o ((Z8o (e0.2.1+n_))-n_)) (Z8o (e0.2.1+n_)) (List.length e0.1) then
    k0 (sub e0.1 (Z8o ((Z8o (e0.2.1+n_))-n_)) (Z8o (e0.2.1+n_))) (e0.1,Z8o (e0.2.1+n_),e0.2.2)
   else none
noncomputable def j6W:Sig Unit:=⟨[.ptr y23,.borrow tI false],[false],λvals ext k=>av vals tI λn_ vals=>nl vals<|ab ext y23 [.S] λa e0 ext=>nl ext<|j0F n_ e0 (λ(r0:List Int) (x0:List Int×Int×Bool)=>k [w1 y0 r0 .S] [] [⟨y23,a,x0,[.S]⟩])⟩
theorem j9g:Z1p Try.prog 108 j6W:=j05 (np:=0) follows j01 Z94 [] oN true Try.func108 λ_ _ k _ h=>aV h λ_ _ _ _ _ h=>nL h λ_ h=>aB h λ_ _ _ _ h=>nL h λ_ h=>by subst_vars;exact .trans (by kernel_rfl) h
noncomputable def j08 (e0:List Int×Int×Bool) (k0:qB->(List Int×Int×Bool)->Res):Res:=
 j07 1 e0 λ(r:Int) (bt10:List Int×Int×Bool)=>
  j0F r bt10 λ(r1:List Int) (bt101:List Int×Int×Bool)=>
   k0 (Z34 r1) bt101
noncomputable def j0B:Sig Unit:=⟨[.ptr y23],[false],λvals ext k=>nl vals<|ab ext y23 [.S] λa e0 ext=>nl ext<|j08 e0 (λ(r0:qB) (x0:List Int×Int×Bool)=>k [wS r0] [] [⟨y23,a,x0,[.S]⟩])⟩
theorem j4V:Z1p Try.prog 47 j0B:=j05 (np:=0) follows j01 (Z8K j3J (Z8K j9g Z94)) [] oN false Try.func47 λ_ _ k _ h=>nL h λ_ h=>aB h λ_ _ _ _ h=>nL h λ_ h=>by subst_vars;exact .trans (by delta j08 j0x j6W;refine gz j07 λ_ e=> ?_;rewrite [<-e];refine gz j0F λ_ e=> ?_;rewrite [<-e];kernel_rfl) h
noncomputable def j0h (most:Int) (e0:List Int×Int×Bool) (k0:Int->(List Int×Int×Bool)->Res):Res:=
 j07 1 e0 λ(r:Int) (bt19:List Int×Int×Bool)=>
  bif decide (r>most) then
   k0 0 (bt19.1,bt19.2.1,true)
  else
   bif bt19.2.2 then
    k0 0 bt19
   else
    k0 r bt19
noncomputable def j0R:Sig Unit:=⟨[.ptr y23,.borrow tI false],[false],λvals ext k=>av vals tI λmost vals=>nl vals<|ab ext y23 [.S] λa e0 ext=>nl ext<|j0h most e0 (λ(r0:Int) (x0:List Int×Int×Bool)=>k [wI r0] [] [⟨y23,a,x0,[.S]⟩])⟩
theorem j4U:Z1p Try.prog 49 j0R:=j05 (np:=0) follows j01 (Z8K j3J Z94) [] oN false Try.func49 λ_ _ k _ h=>aV h λ_ _ _ _ _ h=>nL h λ_ h=>aB h λ_ _ _ _ h=>nL h λ_ h=>by subst_vars;exact .trans (by kernel_rfl) h
theorem j77:Fns Try.prog [(46,j0x),(47,j0B)]:=(Z8K j3J (Z8K j4V Z94))
noncomputable def j0t (t9:Int) (v_:Int×Int×qB) (e0:List Int×Int×Bool) (k0:qV->(List Int×Int×Bool)->Res):Res:=
 bif (t9==1) then
  j07 1 e0 λ(r:Int) (bt34:List Int×Int×Bool)=>
   k0 (v_.1,r,v_.2.2) bt34
 else
  bif (t9==2) then
   j07 1 e0 λ(r1:Int) (bt341:List Int×Int×Bool)=>
    j07 6 bt341 λ(r2:Int) (bt342:List Int×Int×Bool)=>
     bif (r1==1) then
      k0 (v_.1,Z8o (0-r2),v_.2.2) bt342
     else
      k0 (v_.1,r2,v_.2.2) bt342
  else
   bif (t9==3) then
    j08 e0 λ(r3:qB) (bt343:List Int×Int×Bool)=>
     k0 (v_.1,v_.2.1,r3) bt343
   else
    k0 v_ e0
noncomputable def j4E:Z1q Unit:=λσ k=>rdN σ 34<|rdT σ 0 (pB 34)<|rdT σ 2 (pB 2)<|rdT σ 3 (pB 3)<|rdI σ 9 λt9=>rdB σ 2 y2 [] λa t2=>rdB σ 3 y2 [] λa1 v_=>rdB σ 34 y23 [.S] λa2 e0=>j0t t9 v_ e0 (λ(v_1:Int×Int×qB) (e01:List Int×Int×Bool)=>k .normal (mkS 34 35 [(2,pB 2),(3,pB 3)] [(2,⟨y2,a,t2,[]⟩),(3,⟨y2,a1,v_1,[]⟩),(34,⟨y23,a2,e01,[.S]⟩)]))
theorem j8Q {W0:Base} {M:Nat->Prop} (hnp:W0.np<=0):Z22 Try.prog W0 M (cAt 29 (bo Try.f50)) j4E:=j1J follows j01 j77 hnp [] oN ([2,3],[2,3,34]) [] ([],[]) λσ k _ h=>rN h λhn h=>rT h λh0 h=>rT h λh2 h=>rT h λh3 h=>rV h λt9 h9 h=>rB h λa t2 hb2 h=>rB h λa1 v_ hb3 h=>rB h λa2 e0 hb34 h=>⟨_,Z9m (m:=35) hn (sC h0 (sC h2 (sC h3 (sC h9 sN)))) (bC hb2 (bC hb3 (bC hb34 bN))),.trans (by delta j0t j0x j0B;refine gz j07 λ_ e=> ?_;rewrite [<-e];refine gz j08 λ_ e=> ?_;rewrite [<-e];kernel_rfl) h⟩
noncomputable def j0E (e0:List Int×Int×Bool) (k0:qV->(List Int×Int×Bool)->Res):Res:=
 j07 1 e0 λ(r:Int) (bt34:List Int×Int×Bool)=>
  j0t r (r,0,eS) bt34 λ(v_:Int×Int×qB) (e:List Int×Int×Bool)=>
   k0 v_ e
noncomputable def j3M:Sig Unit:=⟨[.ptr y23],[true],λvals ext k=>nl vals<|ab ext y23 [.S] λa e0 ext=>nl ext<|j0E e0 (λ(r0:Int×Int×qB) (x0:List Int×Int×Bool)=>k [⟨y2,true,r0,[]⟩] [] [⟨y23,a,x0,[.S]⟩])⟩
theorem j7c:Z1p Try.prog 50 j3M:=j05 (np:=0) follows j01 j77 [j4E] (oI 29 0 (j8Q) oN) false Try.func50 λ_ _ k _ h=>nL h λ_ h=>aB h λ_ _ _ _ h=>nL h λ_ h=>by subst_vars;exact .trans (by delta j0E j0x j4E;refine gz j07 λ_ e=> ?_;rewrite [<-e];refine gz j0t λ_ e=> ?_;rewrite [<-e];kernel_rfl) h
theorem j6K:Fns Try.prog [(49,j0R),(50,j3M)]:=(Z8K j4U (Z8K j7c Z94))
noncomputable def j1h (t9:Int) (out:List qV) (t10:Int) (e0:List Int×Int×Bool) (rec:qW->Int->(List Int×Int×Bool)->Res) (k0:qW->(List Int×Int×Bool)->Res):Res:=
 bif decide (t10<t9) then
  j0E e0 λ(r:Int×Int×qB) (bt20:List Int×Int×Bool)=>
   bif lim ((List.length out)+1) then
    rec (out++[r]) (Z8o (t10+1)) bt20
   else none
 else
  k0 out e0
noncomputable def j3C (t9:Int):(qW×Int×(List Int×Int×Bool))->(qW×Int×(List Int×Int×Bool)->Res)->((qW->(List Int×Int×Bool)->Res))->Res:=λv rec q=>j1h t9 v.1 v.2.1 v.2.2 (λout t10 e0=>rec (out,t10,e0)) q
noncomputable def j4v (t9:Int) (n:Nat) (out:List qV) (t10:Int) (e0:List Int×Int×Bool) (k0:qW->(List Int×Int×Bool)->Res):Res:=Z14 (j3C t9) n (out,t10,e0) (k0)
noncomputable def j47:Z1q Unit:=λσ k=>rdN σ 20<|rdT σ 0 (pB 20)<|rd1 σ 3 y3 .O λout=>rdI σ 9 λt9=>rdI σ 10 λt10=>rdB σ 20 y23 [.S] λa e0=>j4v t9 Z12 out t10 e0 (λ(out1:List qV) (e01:List Int×Int×Bool)=>k (.exit 0) (mkS 20 21 [(3,v1 y3 out1 .O)] [(20,⟨y23,a,e01,[.S]⟩)]))
theorem j8u {W0:Base} {M:Nat->Prop} (hnp:W0.np<=0):Z22 Try.prog W0 M (cAt 122 (bo Try.f48)) j47:=j0f follows j01 j6K hnp [] oN [0,3,9,10] [20] ([],[]) [(0,[3],[20])] ([],[]) λσ k _ h=>rN h λhn h=>rT h λh0 h=>rV h λout h3 h=>rV h λt9 h9 h=>rV h λt10 h10 h=>rB h λa e0 hb20 h=>⟨_,Z9m (m:=21) hn (sC h0 (sC h3 (sC h9 (sC h10 sN)))) (bC hb20 bN),.trans (Z88 (λv:qW×Int×(List Int×Int×Bool)=>(mkS 20 21 [(0,pB 20),(3,v1 y3 v.1 .O),(9,vI t9),(10,vI v.2.1)] [(20,⟨y23,a,v.2.2,[.S]⟩)])) (j3C t9) (λ(k:Z6O Unit)=>(((λ(out1:List qV) (e01:List Int×Int×Bool)=>k (.exit 0) (mkS 20 21 [(3,v1 y3 out1 .O)] [(20,⟨y23,a,e01,[.S]⟩)]))):(qW->(List Int×Int×Bool)->Res))) (λv rec k=>by kernel_rfl) Z12 (out,t10,e0) k) h⟩
noncomputable def j1Q (e0:List Int×Int×Bool) (k0:qW->(List Int×Int×Bool)->Res):Res:=
 j0h 8 e0 λ(r:Int) (bt20:List Int×Int×Bool)=>
  j4v r Z12 [] 0 bt20 λ(out:List qV) (e:List Int×Int×Bool)=>
   k0 out e
noncomputable def j55:Sig Unit:=⟨[.ptr y23],[false],λvals ext k=>nl vals<|ab ext y23 [.S] λa e0 ext=>nl ext<|j1Q e0 (λ(r0:List qV) (x0:List Int×Int×Bool)=>k [w1 y3 r0 .O] [] [⟨y23,a,x0,[.S]⟩])⟩
theorem j9h:Z1p Try.prog 48 j55:=j05 (np:=0) follows j01 j6K [j47] (oI 122 0 (j8u) oN) false Try.func48 λ_ _ k _ h=>nL h λ_ h=>aB h λ_ _ _ _ h=>nL h λ_ h=>by subst_vars;exact .trans (by delta j1Q j0R j47;refine gz j0h λ_ e=> ?_;rewrite [<-e];refine gz j4v λ_ e=> ?_;rewrite [<-e];kernel_rfl) h
theorem j6v:Fns Try.prog [(47,j0B),(49,j0R)]:=(Z8K j4V (Z8K j4U Z94))
noncomputable def j13 (t9:Int) (out:qL) (t10:Int) (e0:List Int×Int×Bool) (rec:qL->Int->(List Int×Int×Bool)->Res) (k0:qL->(List Int×Int×Bool)->Res):Res:=
 bif decide (t10<t9) then
  j08 e0 λ(r:qB) (bt20:List Int×Int×Bool)=>
   bif lim ((List.length out)+1) then
    rec (out++[r]) (Z8o (t10+1)) bt20
   else none
 else
  k0 out e0
noncomputable def j3j (t9:Int):(qL×Int×(List Int×Int×Bool))->(qL×Int×(List Int×Int×Bool)->Res)->((qL->(List Int×Int×Bool)->Res))->Res:=λv rec q=>j13 t9 v.1 v.2.1 v.2.2 (λout t10 e0=>rec (out,t10,e0)) q
noncomputable def j3S (t9:Int) (n:Nat) (out:qL) (t10:Int) (e0:List Int×Int×Bool) (k0:qL->(List Int×Int×Bool)->Res):Res:=Z14 (j3j t9) n (out,t10,e0) (k0)
noncomputable def j3G:Z1q Unit:=λσ k=>rdN σ 20<|rdT σ 0 (pB 20)<|rd1 σ 3 y9 .O λout=>rdI σ 9 λt9=>rdI σ 10 λt10=>rdB σ 20 y23 [.S] λa e0=>j3S t9 Z12 out t10 e0 (λ(out1:qL) (e01:List Int×Int×Bool)=>k (.exit 0) (mkS 20 21 [(3,v1 y9 out1 .O)] [(20,⟨y23,a,e01,[.S]⟩)]))
theorem j8a {W0:Base} {M:Nat->Prop} (hnp:W0.np<=0):Z22 Try.prog W0 M (cAt 122 (bo Try.f51)) j3G:=j0f follows j01 j6v hnp [] oN [0,3,9,10] [20] ([],[]) [(0,[3],[20])] ([],[]) λσ k _ h=>rN h λhn h=>rT h λh0 h=>rV h λout h3 h=>rV h λt9 h9 h=>rV h λt10 h10 h=>rB h λa e0 hb20 h=>⟨_,Z9m (m:=21) hn (sC h0 (sC h3 (sC h9 (sC h10 sN)))) (bC hb20 bN),.trans (Z88 (λv:qL×Int×(List Int×Int×Bool)=>(mkS 20 21 [(0,pB 20),(3,v1 y9 v.1 .O),(9,vI t9),(10,vI v.2.1)] [(20,⟨y23,a,v.2.2,[.S]⟩)])) (j3j t9) (λ(k:Z6O Unit)=>(((λ(out1:qL) (e01:List Int×Int×Bool)=>k (.exit 0) (mkS 20 21 [(3,v1 y9 out1 .O)] [(20,⟨y23,a,e01,[.S]⟩)]))):(qL->(List Int×Int×Bool)->Res))) (λv rec k=>by kernel_rfl) Z12 (out,t10,e0) k) h⟩
noncomputable def j2v (e0:List Int×Int×Bool) (k0:qL->(List Int×Int×Bool)->Res):Res:=
 j0h 8 e0 λ(r:Int) (bt20:List Int×Int×Bool)=>
  j3S r Z12 [] 0 bt20 λ(out:qL) (e:List Int×Int×Bool)=>
   k0 out e
noncomputable def j4z:Sig Unit:=⟨[.ptr y23],[false],λvals ext k=>nl vals<|ab ext y23 [.S] λa e0 ext=>nl ext<|j2v e0 (λ(r0:qL) (x0:List Int×Int×Bool)=>k [w1 y9 r0 .O] [] [⟨y23,a,x0,[.S]⟩])⟩
theorem j8K:Z1p Try.prog 51 j4z:=j05 (np:=0) follows j01 j6v [j3G] (oI 122 0 (j8a) oN) false Try.func51 λ_ _ k _ h=>nL h λ_ h=>aB h λ_ _ _ _ h=>nL h λ_ h=>by subst_vars;exact .trans (by delta j2v j0R j3G;refine gz j0h λ_ e=> ?_;rewrite [<-e];refine gz j3S λ_ e=> ?_;rewrite [<-e];kernel_rfl) h
noncomputable def j3u (n_:Int) (b:List Int) (i:Int) (rec:(List Int)->Int->Res) (k0:(List Int)->Res):Res:=
 bif decide (i>=0) then
  bif !(decide ((Z8o (8 * i))<0)) then
   bif lim ((List.length b)+1) then
    rec (b++[wu8 (Z9v .i64 n_ (Z8o (8 * i)))]) (Z8o (i-1))
   else none
  else none
 else
  k0 b
noncomputable def j6q (n_:Int):((List Int)×Int)->((List Int)×Int->Res)->(((List Int)->Res))->Res:=λv rec q=>j3u n_ v.1 v.2 (λb i=>rec (b,i)) q
noncomputable def j7x (n_:Int) (n:Nat) (b:List Int) (i:Int) (k0:(List Int)->Res):Res:=Z14 (j6q n_) n (b,i) (k0)
noncomputable def j8B:Z1q Unit:=λσ k=>rdN σ 23<|rd1 σ 0 y0 .O λb=>rdI σ 1 λn_=>rdI σ 7 λi=>j7x n_ Z12 b i (λ(b1:List Int)=>k (.exit 0) (mkS 23 23 [(0,v1 y0 b1 .O)] []))
theorem jbm {W0:Base} {M:Nat->Prop} (hnp:W0.np<=0):Z22 Try.prog W0 M (cAt 26 (bo Try.f112)) j8B:=j0f follows j01 Z94 hnp [] oN [0,1,7] [] ([],[]) [(0,[0],[])] ([],[]) λσ k _ h=>rN h λhn h=>rV h λb h0 h=>rV h λn_ h1 h=>rV h λi h7 h=>⟨_,Z9m (m:=23) hn (sC h0 (sC h1 (sC h7 sN))) bN,.trans (Z88 (λv:(List Int)×Int=>(mkS 23 23 [(0,v1 y0 v.1 .O),(1,vI n_),(7,vI v.2)] [])) (j6q n_) (λ(k:Z6O Unit)=>(((λ(b1:List Int)=>k (.exit 0) (mkS 23 23 [(0,v1 y0 b1 .O)] []))):((List Int)->Res))) (λv rec k=>by kernel_rfl) Z12 (b,i) k) h⟩
noncomputable def j0s (b:List Int) (n_:Int) (size:Int) (k0:(List Int)->Res):Res:=
 j7x n_ Z12 b (Z8o (size-1)) λ(b1:List Int)=>
  k0 b1
noncomputable def j1K:Sig Unit:=⟨[.eat y0 false,.borrow tI false,.borrow tI false],[false],λvals ext k=>ao vals y0 [.O] λb vals=>av vals tI λn_ vals=>av vals tI λsize vals=>nl vals<|nl ext<|j0s b n_ size (λ(r0:List Int)=>k [w1 y0 r0 .O] [] [])⟩
theorem j5l:Z1p Try.prog 112 j1K:=j05 (np:=0) follows j01 Z94 [j8B] (oI 26 0 (jbm) oN) false Try.func112 λ_ _ k _ h=>aO h λ_ _ _ _ h=>aV h λ_ _ _ _ _ h=>aV h λ_ _ _ _ _ h=>nL h λ_ h=>nL h λ_ h=>by subst_vars;exact .trans (by kernel_rfl) h
noncomputable def j0L (b:List Int) (s:qB) (k0:(List Int)->Res):Res:=
 j0s b (nI (ByteArray.size s)) 1 λ(r:List Int)=>
  bif lim ((List.length r)+(ByteArray.size s)) then
   k0 (r++(Z1e s))
  else none
noncomputable def j3A:Sig Unit:=⟨[.eat y0 false,.borrow .str false],[false],λvals ext k=>ao vals y0 [.O] λb vals=>av vals .str λs vals=>nl vals<|nl ext<|j0L b s (λ(r0:List Int)=>k [w1 y0 r0 .O] [] [])⟩
theorem j7s:Z1p Try.prog 110 j3A:=j05 (np:=0) follows j01 (Z8K j5l Z94) [] oN false Try.func110 λ_ _ k _ h=>aO h λ_ _ _ _ h=>aV h λ_ _ _ _ _ h=>nL h λ_ h=>nL h λ_ h=>by subst_vars;exact .trans (by kernel_rfl) h
noncomputable def j1p (b:List Int) (is:Bool) (k0:(List Int)->Res):Res:=
 bif is then
  bif lim ((List.length b)+1) then
   k0 (b++[1])
  else none
 else
  bif lim ((List.length b)+1) then
   k0 (b++[0])
  else none
noncomputable def j6f:Sig Unit:=⟨[.eat y0 false,.borrow .bool false],[false],λvals ext k=>ao vals y0 [.O] λb vals=>av vals .bool λis vals=>nl vals<|nl ext<|j1p b is (λ(r0:List Int)=>k [w1 y0 r0 .O] [] [])⟩
theorem j93:Z1p Try.prog 114 j6f:=j05 (np:=0) follows j01 Z94 [] oN false Try.func114 λ_ _ k _ h=>aO h λ_ _ _ _ h=>aV h λ_ _ _ _ _ h=>nL h λ_ h=>nL h λ_ h=>by subst_vars;exact .trans (by kernel_rfl) h
noncomputable def j4Y (b:List Int) (v_:Int×Int×qB) (k0:(List Int)->Res):Res:=
 j0s b v_.1 1 λ(r:List Int)=>
  bif (v_.1==1) then
   j0s r v_.2.1 1 λ(r1:List Int)=>
    k0 r1
  else
   bif (v_.1==2) then
    j1p r (decide (v_.2.1<0)) λ(r2:List Int)=>
     j0s r2 (mxI v_.2.1 (Z8o (0-v_.2.1))) 6 λ(r3:List Int)=>
      k0 r3
   else
    bif (v_.1==3) then
     j0L r v_.2.2 λ(r4:List Int)=>
      k0 r4
    else
     k0 r
noncomputable def j6G:Sig Unit:=⟨[.eat y0 false,.borrow y2 true],[false],λvals ext k=>ao vals y0 [.O] λb vals=>av vals y2 λv_ vals=>nl vals<|nl ext<|j4Y b v_ (λ(r0:List Int)=>k [w1 y0 r0 .O] [] [])⟩
theorem j9B:Z1p Try.prog 113 j6G:=j05 (np:=0) follows j01 (Z8K j7s (Z8K j5l (Z8K j93 Z94))) [] oN false Try.func113 λ_ _ k _ h=>aO h λ_ _ _ _ h=>aV h λ_ _ _ _ _ h=>nL h λ_ h=>nL h λ_ h=>by subst_vars;exact .trans (by delta j4Y j1K j6f j3A;refine gz j0s λ_ e=> ?_;rewrite [<-e];refine gz j1p λ_ e=> ?_;rewrite [<-e];refine gz j0L λ_ e=> ?_;rewrite [<-e];kernel_rfl) h
theorem j92:Fns Try.prog [(112,j1K),(113,j6G)]:=(Z8K j5l (Z8K j9B Z94))
noncomputable def j2X (t11:List qV) (t12:Int) (b:List Int) (t13:Int) (rec:(List Int)->Int->Res) (k0:(List Int)->Res):Res:=
 bif decide (t13<t12) then
  bif inb t13 (List.length t11) then
   j4Y b (nth (0,0,eS) t11 t13) λ(r:List Int)=>
    rec r (Z8o (t13+1))
  else none
 else
  k0 b
noncomputable def j5Z (t11:List qV) (t12:Int):((List Int)×Int)->((List Int)×Int->Res)->(((List Int)->Res))->Res:=λv rec q=>j2X t11 t12 v.1 v.2 (λb t13=>rec (b,t13)) q
noncomputable def j5q (t11:List qV) (t12:Int) (n:Nat) (b:List Int) (t13:Int) (k0:(List Int)->Res):Res:=Z14 (j5Z t11 t12) n (b,t13) (k0)
noncomputable def j6u:Z1q Unit:=λσ k=>rdN σ 22<|rd1 σ 0 y0 .O λb=>rd1 σ 11 y3 .S λt11=>rdI σ 12 λt12=>rdI σ 13 λt13=>j5q t11 t12 Z12 b t13 (λ(b1:List Int)=>k (.exit 0) (mkS 22 22 [(0,v1 y0 b1 .O)] []))
theorem jaV {W0:Base} {M:Nat->Prop} (hnp:W0.np<=0):Z22 Try.prog W0 M (cAt 58 (bo Try.f111)) j6u:=j0f follows j01 j92 hnp [] oN [0,11,12,13] [] ([],[]) [(0,[0],[])] ([],[]) λσ k _ h=>rN h λhn h=>rV h λb h0 h=>rV h λt11 h11 h=>rV h λt12 h12 h=>rV h λt13 h13 h=>⟨_,Z9m (m:=22) hn (sC h0 (sC h11 (sC h12 (sC h13 sN)))) bN,.trans (Z88 (λv:(List Int)×Int=>(mkS 22 22 [(0,v1 y0 v.1 .O),(11,v1 y3 t11 .S),(12,vI t12),(13,vI v.2)] [])) (j5Z t11 t12) (λ(k:Z6O Unit)=>(((λ(b1:List Int)=>k (.exit 0) (mkS 22 22 [(0,v1 y0 b1 .O)] []))):((List Int)->Res))) (λv rec k=>by kernel_rfl) Z12 (b,t13) k) h⟩
noncomputable def j3T (b:List Int) (l:List qV) (k0:(List Int)->Res):Res:=
 j0s b (nI (List.length l)) 1 λ(r:List Int)=>
  j5q l (nI (List.length l)) Z12 r 0 λ(b1:List Int)=>
   k0 b1
noncomputable def j7y:Sig Unit:=⟨[.eat y0 false,.borrow y3 false],[false],λvals ext k=>ao vals y0 [.O] λb vals=>av vals y3 λl vals=>nl vals<|nl ext<|j3T b l (λ(r0:List Int)=>k [w1 y0 r0 .O] [] [])⟩
theorem jbr:Z1p Try.prog 111 j7y:=j05 (np:=0) follows j01 j92 [j6u] (oI 58 0 (jaV) oN) false Try.func111 λ_ _ k _ h=>aO h λ_ _ _ _ h=>aV h λ_ _ _ _ _ h=>nL h λ_ h=>nL h λ_ h=>by subst_vars;exact .trans (by delta j3T j1K j6u;refine gz j0s λ_ e=> ?_;rewrite [<-e];refine gz j5q λ_ e=> ?_;rewrite [<-e];kernel_rfl) h
theorem j8e:Fns Try.prog [(110,j3A),(112,j1K)]:=(Z8K j7s (Z8K j5l Z94))
noncomputable def j2w (t11:qL) (t12:Int) (b:List Int) (t13:Int) (rec:(List Int)->Int->Res) (k0:(List Int)->Res):Res:=
 bif decide (t13<t12) then
  bif inb t13 (List.length t11) then
   j0L b (nth eS t11 t13) λ(r:List Int)=>
    rec r (Z8o (t13+1))
  else none
 else
  k0 b
noncomputable def j5p (t11:qL) (t12:Int):((List Int)×Int)->((List Int)×Int->Res)->(((List Int)->Res))->Res:=λv rec q=>j2w t11 t12 v.1 v.2 (λb t13=>rec (b,t13)) q
noncomputable def j4R (t11:qL) (t12:Int) (n:Nat) (b:List Int) (t13:Int) (k0:(List Int)->Res):Res:=Z14 (j5p t11 t12) n (b,t13) (k0)
noncomputable def j6d:Z1q Unit:=λσ k=>rdN σ 22<|rd1 σ 0 y0 .O λb=>rd1 σ 11 y9 .S λt11=>rdI σ 12 λt12=>rdI σ 13 λt13=>j4R t11 t12 Z12 b t13 (λ(b1:List Int)=>k (.exit 0) (mkS 22 22 [(0,v1 y0 b1 .O)] []))
theorem jar {W0:Base} {M:Nat->Prop} (hnp:W0.np<=0):Z22 Try.prog W0 M (cAt 58 (bo Try.f115)) j6d:=j0f follows j01 j8e hnp [] oN [0,11,12,13] [] ([],[]) [(0,[0],[])] ([],[]) λσ k _ h=>rN h λhn h=>rV h λb h0 h=>rV h λt11 h11 h=>rV h λt12 h12 h=>rV h λt13 h13 h=>⟨_,Z9m (m:=22) hn (sC h0 (sC h11 (sC h12 (sC h13 sN)))) bN,.trans (Z88 (λv:(List Int)×Int=>(mkS 22 22 [(0,v1 y0 v.1 .O),(11,v1 y9 t11 .S),(12,vI t12),(13,vI v.2)] [])) (j5p t11 t12) (λ(k:Z6O Unit)=>(((λ(b1:List Int)=>k (.exit 0) (mkS 22 22 [(0,v1 y0 b1 .O)] []))):((List Int)->Res))) (λv rec k=>by kernel_rfl) Z12 (b,t13) k) h⟩
noncomputable def j4g (b:List Int) (l:qL) (k0:(List Int)->Res):Res:=
 j0s b (nI (List.length l)) 1 λ(r:List Int)=>
  j4R l (nI (List.length l)) Z12 r 0 λ(b1:List Int)=>
   k0 b1
noncomputable def j6X:Sig Unit:=⟨[.eat y0 false,.borrow y9 false],[false],λvals ext k=>ao vals y0 [.O] λb vals=>av vals y9 λl vals=>nl vals<|nl ext<|j4g b l (λ(r0:List Int)=>k [w1 y0 r0 .O] [] [])⟩
theorem jb7:Z1p Try.prog 115 j6X:=j05 (np:=0) follows j01 j8e [j6d] (oI 58 0 (jar) oN) false Try.func115 λ_ _ k _ h=>aO h λ_ _ _ _ h=>aV h λ_ _ _ _ _ h=>nL h λ_ h=>nL h λ_ h=>by subst_vars;exact .trans (by delta j4g j1K j6d;refine gz j0s λ_ e=> ?_;rewrite [<-e];refine gz j4R λ_ e=> ?_;rewrite [<-e];kernel_rfl) h
theorem j6J:Fns Try.prog [(109,j6r),(110,j3A),(111,j7y),(112,j1K),(113,j6G),(114,j6f),(115,j6X)]:=(Z8K jaL (Z8K j7s (Z8K jbr (Z8K j5l (Z8K j9B (Z8K j93 (Z8K jb7 Z94)))))))
noncomputable def j0N (t41:List qC) (t42:Int) (b:List Int) (t43:Int) (rec:(List Int)->Int->Res) (k0:(List Int)->Res):Res:=
 bif decide (t43<t42) then
  bif inb t43 (List.length t41) then
   j0L b (nth (eS,0,false,false,0,0,eS) t41 t43).1 λ(r:List Int)=>
    j0s r (nth (eS,0,false,false,0,0,eS) t41 t43).2.1 1 λ(r1:List Int)=>
     j1p r1 (nth (eS,0,false,false,0,0,eS) t41 t43).2.2.1 λ(r2:List Int)=>
      j1p r2 (nth (eS,0,false,false,0,0,eS) t41 t43).2.2.2.1 λ(r3:List Int)=>
       j4Y r3 (nth (eS,0,false,false,0,0,eS) t41 t43).2.2.2.2 λ(r4:List Int)=>
        rec r4 (Z8o (t43+1))
  else none
 else
  k0 b
noncomputable def j2e (t41:List qC) (t42:Int):((List Int)×Int)->((List Int)×Int->Res)->(((List Int)->Res))->Res:=λv rec q=>j0N t41 t42 v.1 v.2 (λb t43=>rec (b,t43)) q
noncomputable def j1z (t41:List qC) (t42:Int) (n:Nat) (b:List Int) (t43:Int) (k0:(List Int)->Res):Res:=Z14 (j2e t41 t42) n (b,t43) (k0)
noncomputable def j46:Z1q Unit:=λσ k=>rdN σ 76<|rd1 σ 4 y0 .O λb=>rdT σ 5 (pB 5)<|rd1 σ 41 y8 .S λt41=>rdI σ 42 λt42=>rdI σ 43 λt43=>rdB σ 5 y14 [.S,.S] λa d=>j1z t41 t42 Z12 b t43 (λ(b1:List Int)=>k (.exit 0) (mkS 76 76 [(4,v1 y0 b1 .O),(5,pB 5)] [(5,⟨y14,a,d,[.S,.S]⟩)]))
theorem j8t {W0:Base} {M:Nat->Prop} (hnp:W0.np<=0):Z22 Try.prog W0 M (cAt 2042 (bo Try.f52)) j46:=j0f follows j01 j6J hnp [] oN [4,5,41,42,43] [5] ([],[]) [(0,[4,5],[5])] ([],[]) λσ k _ h=>rN h λhn h=>rV h λb h4 h=>rT h λh5 h=>rV h λt41 h41 h=>rV h λt42 h42 h=>rV h λt43 h43 h=>rB h λa d hb5 h=>⟨_,Z9m (m:=76) hn (sC h4 (sC h5 (sC h41 (sC h42 (sC h43 sN))))) (bC hb5 bN),.trans (Z88 (λv:(List Int)×Int=>(mkS 76 76 [(4,v1 y0 v.1 .O),(5,pB 5),(41,v1 y8 t41 .S),(42,vI t42),(43,vI v.2)] [(5,⟨y14,a,d,[.S,.S]⟩)])) (j2e t41 t42) (λ(k:Z6O Unit)=>(((λ(b1:List Int)=>k (.exit 0) (mkS 76 76 [(4,v1 y0 b1 .O),(5,pB 5)] [(5,⟨y14,a,d,[.S,.S]⟩)]))):((List Int)->Res))) (λv rec k=>by delta j2e j0N j3A j1K j6f j6G;refine gz j0L λ_ e=> ?_;rewrite [<-e];refine gz j0s λ_ e=> ?_;rewrite [<-e];refine gz j1p λ_ e=> ?_;rewrite [<-e];refine gz j4Y λ_ e=> ?_;rewrite [<-e];kernel_rfl) Z12 (b,t43) k) h⟩
noncomputable def j0v (s:qS) (k0:(List Int)->Bool->Res):Res:=
 j3y s λ(r:Bool)=>
  bif !r then
   k0 [] false
  else
   j0L [83,wu8 s.1] s.2.1 λ(r1:List Int)=>
    j3T r1 s.2.2.1 λ(r2:List Int)=>
     j3T r2 s.2.2.2.1 λ(r3:List Int)=>
      bif (s.1 != 5) then
       k0 r3 true
      else
       j0s r3 s.2.2.2.2.1 1 λ(r4:List Int)=>
        j0s r4 (nI (List.length s.2.2.2.2.2.2.1)) 1 λ(r5:List Int)=>
         j1z s.2.2.2.2.2.2.1 (nI (List.length s.2.2.2.2.2.2.1)) Z12 r5 0 λ(b:List Int)=>
          j4g b s.2.2.2.2.2.2.2.1 λ(r6:List Int)=>
           j0L r6 s.2.2.2.2.2.2.2.2.1 λ(r7:List Int)=>
            j0L r7 s.2.2.2.2.2.2.2.2.2 λ(r8:List Int)=>
             k0 r8 true
noncomputable def j54:Sig Unit:=⟨[.borrow y18 true],[false,false],λvals ext k=>av vals y18 λs vals=>nl vals<|nl ext<|j0v s (λ(r0:List Int) (r1:Bool)=>k [w1 y0 r0 .O,wB r1] [] [])⟩
theorem j9d:Z1p Try.prog 52 j54:=j05 (np:=0) follows j01 j6J [j46] (oI 2042 0 (j8t) oN) false Try.func52 λ_ _ k _ h=>aV h λ_ _ _ _ _ h=>nL h λ_ h=>nL h λ_ h=>by subst_vars;exact .trans (by delta j0v j6r j3A j7y j1K j46 j6X;refine gz j3y λ_ e=> ?_;rewrite [<-e];refine gz j0L λ_ e=> ?_;rewrite [<-e];refine gz j3T λ_ e=> ?_;rewrite [<-e];refine gz j0s λ_ e=> ?_;rewrite [<-e];refine gz j1z λ_ e=> ?_;rewrite [<-e];refine gz j4g λ_ e=> ?_;rewrite [<-e];kernel_rfl) h
theorem j2q:Fns Try.prog [(46,j0x),(47,j0B),(48,j55),(49,j0R),(50,j3M),(51,j4z),(52,j54)]:=(Z8K j3J (Z8K j4V (Z8K j9h (Z8K j4U (Z8K j7c (Z8K j8K (Z8K j9d Z94)))))))
noncomputable def j1T (x:qS) (t14:List Int×Int×Bool) (k0:qS->(List Int×Int×Bool)->Res):Res:=
 Z6T
  (j07 1 t14 λ(r:Int) (bt14:List Int×Int×Bool)=>
   k0 (x.1,x.2.1,x.2.2.1,x.2.2.2.1,r,x.2.1,[],[],eS,eS) bt14)
  (Z6T
   (j07 1 t14 λ(r1:Int) (bt141:List Int×Int×Bool)=>
    k0 (x.1,x.2.1,x.2.2.1,x.2.2.2.1,r1,x.2.1,[],[],eS,eS) bt141)
   (j07 1 t14 λ(r2:Int) (bt142:List Int×Int×Bool)=>
    k0 (x.1,x.2.1,x.2.2.1,x.2.2.2.1,r2,x.2.1,[],[],eS,eS) bt142))
noncomputable def j1a:Z1q Unit:=λσ k=>rdN σ 106<|rd1 σ 0 y0 .S λb=>rdT σ 2 (pB 2)<|rdT σ 4 (pB 14)<|rdT σ 5 (pB 5)<|rdB σ 2 y18 [.O,.O,.O,.O] λa t2=>rdB σ 5 y18 [.O,.O,.O,.O] λa1 x=>rdB σ 14 y23 [.S] λa2 t14=>j1T x t14 (λ(x1:qS) (t141:List Int×Int×Bool)=>k .normal (mkS 106 106 [(0,v1 y0 b .S),(2,pB 2),(4,pB 14),(5,pB 5)] [(2,⟨y18,a,t2,[.O,.O,.O,.O]⟩),(5,⟨y18,a1,x1,[.O,.O,.O,.O]⟩),(14,⟨y23,a2,t141,[.S]⟩)]))
theorem j8N {W0:Base} {M:Nat->Prop} (hnp:W0.np<=0):Z22 Try.prog W0 M (cAt 4084 (bo Try.f10)) j1a:=j1J follows j01 j2q hnp [] oN ([0,2,4,5],[2,5,14]) [] ([],[]) λσ k _ h=>rN h λhn h=>rV h λb h0 h=>rT h λh2 h=>rT h λh4 h=>rT h λh5 h=>rB h λa t2 hb2 h=>rB h λa1 x hb5 h=>rB h λa2 t14 hb14 h=>⟨_,Z9m (m:=106) hn (sC h0 (sC h2 (sC h4 (sC h5 sN)))) (bC hb2 (bC hb5 (bC hb14 bN))),.trans (by delta j1T j0x;refine gz j07 λ_ e=> ?_;rewrite [<-e];kernel_rfl) h⟩
noncomputable def j0T (t41:Int) (t42:Int) (x:qS) (t14:List Int×Int×Bool) (rec:Int->qS->(List Int×Int×Bool)->Res) (k0:qS->(List Int×Int×Bool)->Res):Res:=
 bif decide (t42<t41) then
  j08 t14 λ(r:qB) (bt14:List Int×Int×Bool)=>
   j07 1 bt14 λ(r1:Int) (bt141:List Int×Int×Bool)=>
    j07 1 bt141 λ(r2:Int) (bt142:List Int×Int×Bool)=>
     j07 1 bt142 λ(r3:Int) (bt143:List Int×Int×Bool)=>
      j0E bt143 λ(r4:Int×Int×qB) (bt144:List Int×Int×Bool)=>
       bif lim ((List.length x.2.2.2.2.2.2.1)+1) then
        rec (Z8o (t42+1)) (x.1,x.2.1,x.2.2.1,x.2.2.2.1,x.2.2.2.2.1,x.2.2.2.2.2.1,(x.2.2.2.2.2.2.1++[(r,r1,(r2==1),(r3==1),r4)]),x.2.2.2.2.2.2.2) bt144
       else none
 else
  k0 x t14
noncomputable def j2s (t41:Int):(Int×qS×(List Int×Int×Bool))->(Int×qS×(List Int×Int×Bool)->Res)->((qS->(List Int×Int×Bool)->Res))->Res:=λv rec q=>j0T t41 v.1 v.2.1 v.2.2 (λt42 x t14=>rec (t42,x,t14)) q
noncomputable def j3h (t41:Int) (n:Nat) (t42:Int) (x:qS) (t14:List Int×Int×Bool) (k0:qS->(List Int×Int×Bool)->Res):Res:=Z14 (j2s t41) n (t42,x,t14) (k0)
noncomputable def j1G:Z1q Unit:=λσ k=>rdN σ 106<|rd1 σ 0 y0 .S λb=>rdT σ 2 (pB 2)<|rdT σ 4 (pB 14)<|rdT σ 5 (pB 5)<|rdI σ 41 λt41=>rdI σ 42 λt42=>rdB σ 2 y18 [.O,.O,.O,.O] λa t2=>rdB σ 5 y18 [.O,.O,.O,.O] λa1 x=>rdB σ 14 y23 [.S] λa2 t14=>j3h t41 Z12 t42 x t14 (λ(x1:qS) (t141:List Int×Int×Bool)=>k (.exit 0) (mkS 106 106 [(0,v1 y0 b .S),(2,pB 2),(4,pB 14),(5,pB 5)] [(2,⟨y18,a,t2,[.O,.O,.O,.O]⟩),(5,⟨y18,a1,x1,[.O,.O,.O,.O]⟩),(14,⟨y23,a2,t141,[.S]⟩)]))
theorem j8M {W0:Base} {M:Nat->Prop} (hnp:W0.np<=0):Z22 Try.prog W0 M (cAt 65370 (bo Try.f10)) j1G:=j0f follows j01 j2q hnp [j1a] oN [0,2,4,5,41,42] [2,5,14] ([],[]) [(0,[0,2,4,5],[2,5,14])] ([],[]) λσ k _ h=>rN h λhn h=>rV h λb h0 h=>rT h λh2 h=>rT h λh4 h=>rT h λh5 h=>rV h λt41 h41 h=>rV h λt42 h42 h=>rB h λa t2 hb2 h=>rB h λa1 x hb5 h=>rB h λa2 t14 hb14 h=>⟨_,Z9m (m:=106) hn (sC h0 (sC h2 (sC h4 (sC h5 (sC h41 (sC h42 sN)))))) (bC hb2 (bC hb5 (bC hb14 bN))),.trans (Z88 (λv:Int×qS×(List Int×Int×Bool)=>(mkS 106 106 [(0,v1 y0 b .S),(2,pB 2),(4,pB 14),(5,pB 5),(41,vI t41),(42,vI v.1)] [(2,⟨y18,a,t2,[.O,.O,.O,.O]⟩),(5,⟨y18,a1,v.2.1,[.O,.O,.O,.O]⟩),(14,⟨y23,a2,v.2.2,[.S]⟩)])) (j2s t41) (λ(k:Z6O Unit)=>(((λ(x1:qS) (t141:List Int×Int×Bool)=>k (.exit 0) (mkS 106 106 [(0,v1 y0 b .S),(2,pB 2),(4,pB 14),(5,pB 5)] [(2,⟨y18,a,t2,[.O,.O,.O,.O]⟩),(5,⟨y18,a1,x1,[.O,.O,.O,.O]⟩),(14,⟨y23,a2,t141,[.S]⟩)]))):(qS->(List Int×Int×Bool)->Res))) (λv rec k=>by delta j2s j0T j0B j0x j3M;refine gz j08 λ_ e=> ?_;rewrite [<-e];refine gz j07 λ_ e=> ?_;rewrite [<-e];refine gz j0E λ_ e=> ?_;rewrite [<-e];kernel_rfl) Z12 (t42,x,t14) k) h⟩
noncomputable def j1m (t32:Bool) (x:qS) (t14:List Int×Int×Bool) (k0:qS->(List Int×Int×Bool)->Res):Res:=
 bif t32 then
  j1T x t14 λ(x1:qS) (t:List Int×Int×Bool)=>
   j0h 8 t λ(r:Int) (bt14:List Int×Int×Bool)=>
    j3h r Z12 0 x1 bt14 λ(x2:qS) (t1:List Int×Int×Bool)=>
     j2v t1 λ(r1:qL) (bt141:List Int×Int×Bool)=>
      j08 bt141 λ(r2:qB) (bt142:List Int×Int×Bool)=>
       j08 bt142 λ(r3:qB) (bt143:List Int×Int×Bool)=>
        k0 (x2.1,x2.2.1,x2.2.2.1,x2.2.2.2.1,x2.2.2.2.2.1,x2.2.2.2.2.2.1,x2.2.2.2.2.2.2.1,r1,r2,r3) bt143
 else
  k0 x t14
noncomputable def j2T:Z1q Unit:=λσ k=>rdN σ 106<|rd1 σ 0 y0 .S λb=>rdT σ 2 (pB 2)<|rdT σ 4 (pB 14)<|rdT σ 5 (pB 5)<|rdO σ 32 λt32=>rdB σ 2 y18 [.O,.O,.O,.O] λa t2=>rdB σ 5 y18 [.O,.O,.O,.O] λa1 x=>rdB σ 14 y23 [.S] λa2 t14=>j1m t32 x t14 (λ(x3:qS) (t141:List Int×Int×Bool)=>k .normal (mkS 106 106 [(0,v1 y0 b .S),(2,pB 2),(4,pB 14),(5,pB 5)] [(2,⟨y18,a,t2,[.O,.O,.O,.O]⟩),(5,⟨y18,a1,x3,[.O,.O,.O,.O]⟩),(14,⟨y23,a2,t141,[.S]⟩)]))
theorem j8O {W0:Base} {M:Nat->Prop} (hnp:W0.np<=0):Z22 Try.prog W0 M (cAt 1021 (bo Try.f10)) j2T:=j1J follows j01 j2q hnp [j1a,j1G] (oI 4 0 (j8N) (oI 90 1 (j8M) oN)) ([0,2,4,5],[2,5,14]) [] ([],[]) λσ k _ h=>rN h λhn h=>rV h λb h0 h=>rT h λh2 h=>rT h λh4 h=>rT h λh5 h=>rV h λt32 h32 h=>rB h λa t2 hb2 h=>rB h λa1 x hb5 h=>rB h λa2 t14 hb14 h=>⟨_,Z9m (m:=106) hn (sC h0 (sC h2 (sC h4 (sC h5 (sC h32 sN))))) (bC hb2 (bC hb5 (bC hb14 bN))),.trans (by delta j1m j1a j0R j1G j4z j0B;refine gz j1T λ_ e=> ?_;rewrite [<-e];refine gz j0h λ_ e=> ?_;rewrite [<-e];refine gz j3h λ_ e=> ?_;rewrite [<-e];refine gz j2v λ_ e=> ?_;rewrite [<-e];refine gz j08 λ_ e=> ?_;rewrite [<-e];kernel_rfl) h⟩
noncomputable def j0Q (b:List Int) (back:List Int) (ok:Bool) (t14:List Int×Int×Bool) (k0:Bool->Res):Res:=
 bif t14.2.2 then
  k0 true
 else
  bif !ok then
   k0 true
  else
   k0 (sNe (Z34 back) (Z34 b))
noncomputable def j4D:Z1q Unit:=λσ k=>rdN σ 106<|rd1 σ 0 y0 .S λb=>rdT σ 2 (pB 2)<|rdT σ 4 (pB 14)<|rdT σ 5 (pB 5)<|rd1 σ 10 y0 .O λback=>rdO σ 11 λok=>rdB σ 2 y18 [.O,.O,.O,.O] λa t2=>rdB σ 5 y18 [.O,.O,.O,.O] λa1 x=>rdB σ 14 y23 [.S] λa2 t14=>j0Q b back ok t14 (λ(t103:Bool)=>k .normal (mkS 106 106 [(2,pB 2),(5,pB 5),(103,vB t103)] [(2,⟨y18,a,t2,[.O,.O,.O,.O]⟩),(5,⟨y18,a1,x,[.O,.O,.O,.O]⟩)]))
theorem j8P {W0:Base} {M:Nat->Prop} (hnp:W0.np<=0):Z22 Try.prog W0 M (cAt 4092 (bo Try.f10)) j4D:=j1J follows j01 j2q hnp [j1a,j1G,j2T] oN ([2,5,103],[2,5]) [] ([],[]) λσ k _ h=>rN h λhn h=>rV h λb h0 h=>rT h λh2 h=>rT h λh4 h=>rT h λh5 h=>rV h λback h10 h=>rV h λok h11 h=>rB h λa t2 hb2 h=>rB h λa1 x hb5 h=>rB h λa2 t14 hb14 h=>⟨_,Z9m (m:=106) hn (sC h0 (sC h2 (sC h4 (sC h5 (sC h10 (sC h11 sN)))))) (bC hb2 (bC hb5 (bC hb14 bN))),.trans (by kernel_rfl) h⟩
noncomputable def j0D (b:List Int) (k0:qS->Bool->Res):Res:=
 j07 1 (b,0,false) λ(r:Int) (bt14:List Int×Int×Bool)=>
  j07 1 bt14 λ(r1:Int) (bt141:List Int×Int×Bool)=>
   j08 bt141 λ(r2:qB) (bt142:List Int×Int×Bool)=>
    j1Q bt142 λ(r3:List qV) (bt143:List Int×Int×Bool)=>
     j1Q bt143 λ(r4:List qV) (bt144:List Int×Int×Bool)=>
      j1m (r1==5) (r1,r2,r3,r4,0,eS,[],[],eS,eS) bt144 λ(x:qS) (t:List Int×Int×Bool)=>
       j0v x λ(r5:List Int) (r6:Bool)=>
        j0Q b r5 r6 t λ(t1:Bool)=>
         bif t1 then
          k0 (0,eS,[],[],0,eS,[],[],eS,eS) false
         else
          k0 x true
noncomputable def j3K:Sig Unit:=⟨[.borrow y0 false],[true,false],λvals ext k=>av vals y0 λb vals=>nl vals<|nl ext<|j0D b (λ(r0:qS) (r1:Bool)=>k [⟨y18,true,r0,[.O,.O,.O,.O]⟩,wB r1] [] [])⟩
theorem j9A:Z1p Try.prog 10 j3K:=j05 (np:=0) follows j01 j2q [j1a,j1G,j2T,j4D] (oI 1021 2 (j8O) (oI 4092 3 (j8P) oN)) false Try.func10 λ_ _ k _ h=>aV h λ_ _ _ _ _ h=>nL h λ_ h=>nL h λ_ h=>by subst_vars;exact .trans (by delta j0D j0x j0B j55 j2T j54 j4D;refine gz j07 λ_ e=> ?_;rewrite [<-e];refine gz j08 λ_ e=> ?_;rewrite [<-e];refine gz j1Q λ_ e=> ?_;rewrite [<-e];refine gz j1m λ_ e=> ?_;rewrite [<-e];refine gz j0v λ_ e=> ?_;rewrite [<-e];refine gz j0Q λ_ e=> ?_;rewrite [<-e];kernel_rfl) h
end Go.PI.G
