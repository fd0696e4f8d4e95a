/-
  Program's code interpreted over typed values; printed texts; plain laws. No conditions.
-/
import Derived.Test.YtppeoiidhmegkaaGreatBa
set_option linter.unusedVariables false
set_option maxRecDepth 100000
namespace Go.PI.G
open Go Go.PI Go.Proofs
open Go.Code (pl pr)
noncomputable def j4o (c:qB×Int×Bool×Bool×Int×Int×qB) (v_:Int×Int×qB) (k0:Bool->Res):Res:=
 bif (v_.1==0) then
  j12 v_ λ(r:Bool)=>
   bif r then
    k0 (!c.2.2.1)
   else
    k0 false
 else
  j12 v_ λ(r1:Bool)=>
   bif r1 then
    k0 (v_.1==c.2.1)
   else
    k0 false
noncomputable def jam:Sig Unit:=⟨[.look y8 true,.look y3 true],[false],λvals ext k=>av vals y8 λc vals=>av vals y3 λv_ vals=>nl vals<|nl ext<|j4o c v_ (λ(r0:Bool)=>k [wB r0] [] [])⟩
theorem jdP:Z1p Tryz.prog 346 jam:=j02 (np:=0) follows j01 (Z8K j8E Z94) [] oN false Tryz.func346 λ_ _ k _ h=>aV h λ_ _ _ _ _ h=>aV h λ_ _ _ _ _ h=>nL h λ_ h=>nL h λ_ h=>by subst_vars;exact .trans (by delta j4o j6z;refine gz j12 λ_ e=> ?_;rewrite [<-e];kernel_rfl) h
theorem jb8:Fns Tryz.prog [(202,j3f),(346,jam)]:=(Z8K j4r (Z8K jdP Z94))
noncomputable def j2U (t20:List qC) (t21:Int) (r:List qV) (t22:Int) (rec:Int->Res) (k0:Unit->Res) (k1:Unit->Res):Res:=
 bif decide (t22<t21) then
  bif inb t22 (List.length t20) then
   bif inb t22 (List.length r) then
    j4o (nth (eS,0,false,false,0,0,eS) t20 t22) (nth (0,0,eS) r t22) λ(r1:Bool)=>
     bif !r1 then
      k1 ()
     else
      rec (Z8o (t22+1))
   else none
  else none
 else
  k0 ()
noncomputable def j6K (t20:List qC) (t21:Int) (r:List qV):Int->(Int->Res)->((Unit->Res)×(Unit->Res))->Res:=λv rec q=>j2U t20 t21 r v (λt22=>rec (t22)) q.1 q.2
noncomputable def j5v (t20:List qC) (t21:Int) (r:List qV) (n:Nat) (t22:Int) (k0:Unit->Res) (k1:Unit->Res):Res:=Z14 (j6K t20 t21 r) n (t22) (k0,k1)
noncomputable def j7i:Z1q Unit:=λσ k=>rdN σ 36<|rdT σ 3 (pB 3)<|rd1 σ 20 y9 .S λt20=>rdI σ 21 λt21=>rdI σ 22 λt22=>rdB σ 3 y4 [.S] λa r=>j5v t20 t21 r Z12 t22 (λ(_:Unit)=>k (.exit 0) (mkS 36 36 [] [])) (λ(_:Unit)=>k .ret (mkS 36 36 [(4,vB false)] []))
theorem je1 {W0:Base} {M:Nat->Prop} (hnp:W0.np<=0):Z22 Tryz.prog W0 M (cAt 58 (bo Tryz.f307)) j7i:=j0a follows j01 jb8 hnp [] oN [3,20,21,22] [3] ([],[]) [(0,[],[])] ([4],[]) λσ k _ h=>rN h λhn h=>rT h λh3 h=>rV h λt20 h20 h=>rV h λt21 h21 h=>rV h λt22 h22 h=>rB h λa r hb3 h=>⟨_,Z9m (m:=36) hn (sC h3 (sC h20 (sC h21 (sC h22 sN)))) (bC hb3 bN),.trans (Z88 (λv:Int=>(mkS 36 36 [(3,pB 3),(20,v1 y9 t20 .S),(21,vI t21),(22,vI v)] [(3,⟨y4,a,r,[.S]⟩)])) (j6K t20 t21 r) (λ(k:Z6O Unit)=>(((λ(_:Unit)=>k (.exit 0) (mkS 36 36 [] [])),(λ(_:Unit)=>k .ret (mkS 36 36 [(4,vB false)] []))):(Unit->Res)×(Unit->Res))) (λv rec k=>by kernel_rfl) Z12 (t22) k) h⟩
noncomputable def j4O (t:qB×qE×qL) (r:List qV) (k0:Bool->Res):Res:=
 j0P t λ(r1:Bool)=>
  bif !r1 then
   k0 false
  else
   bif ((nI (List.length r)) != (nI (List.length t.2.1))) then
    k0 false
   else
    j5v t.2.1 (nI (List.length t.2.1)) r Z12 0
     (λ(_:Unit)=>
      k0 true)
     (λ(_:Unit)=>
      k0 false)
noncomputable def j9a:Sig Unit:=⟨[.look y22 true,.look y4 true],[false],λvals ext k=>av vals y22 λt vals=>av vals y4 λr vals=>nl vals<|nl ext<|j4O t r (λ(r0:Bool)=>k [wB r0] [] [])⟩
theorem jfh:Z1p Tryz.prog 307 j9a:=j02 (np:=0) follows j01 jb8 [j7i] (oI 58 0 (je1) oN) false Tryz.func307 λ_ _ k _ h=>aV h λ_ _ _ _ _ h=>aV h λ_ _ _ _ _ h=>nL h λ_ h=>nL h λ_ h=>by subst_vars;exact .trans (by delta j4O j3f j7i;refine gz j0P λ_ e=> ?_;rewrite [<-e];refine gz j5v λ_ e=> ?_;rewrite [<-e];kernel_rfl) h
noncomputable def j2s (t10:qL) (t11:Int) (t:qB×qE×qL) (r:List qV) (out:List qV) (t12:Int) (rec:qW->Int->Res) (k0:qW->Res):Res:=
 bif decide (t12<t11) then
  bif inb t12 (List.length t10) then
   j3m t (nth eS t10 t12) λ(r1:Int)=>
    bif inb r1 (List.length r) then
     bif lim ((List.length out)+1) then
      rec (out++[nth (0,0,eS) r r1]) (Z8o (t12+1))
     else none
    else none
  else none
 else
  k0 out
noncomputable def j5W (t10:qL) (t11:Int) (t:qB×qE×qL) (r:List qV):(qW×Int)->(qW×Int->Res)->((qW->Res))->Res:=λv rec q=>j2s t10 t11 t r v.1 v.2 (λout t12=>rec (out,t12)) q
noncomputable def j7f (t10:qL) (t11:Int) (t:qB×qE×qL) (r:List qV) (n:Nat) (out:List qV) (t12:Int) (k0:qW->Res):Res:=Z14 (j5W t10 t11 t r) n (out,t12) (k0)
noncomputable def j9K:Z1q Unit:=λσ k=>rdN σ 28<|rdT σ 2 (pB 2)<|rdT σ 3 (pB 3)<|rd1 σ 5 y4 .O λout=>rd1 σ 10 y1 .S λt10=>rdI σ 11 λt11=>rdI σ 12 λt12=>rdB σ 2 y22 [.S,.S] λa t=>rdB σ 3 y4 [.S] λa1 r=>j7f t10 t11 t r Z12 out t12 (λ(out1:List qV)=>k (.exit 0) (mkS 28 28 [(5,v1 y4 out1 .O)] []))
theorem jdk {W0:Base} {M:Nat->Prop} (hnp:W0.np<=0):Z22 Tryz.prog W0 M (cAt 58 (bo Tryz.f309)) j9K:=j0a follows j01 (Z8K j8D Z94) hnp [] oN [2,3,5,10,11,12] [2,3] ([],[]) [(0,[5],[])] ([],[]) λσ k _ h=>rN h λhn h=>rT h λh2 h=>rT h λh3 h=>rV h λout h5 h=>rV h λt10 h10 h=>rV h λt11 h11 h=>rV h λt12 h12 h=>rB h λa t hb2 h=>rB h λa1 r hb3 h=>⟨_,Z9m (m:=28) hn (sC h2 (sC h3 (sC h5 (sC h10 (sC h11 (sC h12 sN)))))) (bC hb2 (bC hb3 bN)),.trans (Z88 (λv:qW×Int=>(mkS 28 28 [(2,pB 2),(3,pB 3),(5,v1 y4 v.1 .O),(10,v1 y1 t10 .S),(11,vI t11),(12,vI v.2)] [(2,⟨y22,a,t,[.S,.S]⟩),(3,⟨y4,a1,r,[.S]⟩)])) (j5W t10 t11 t r) (λ(k:Z6O Unit)=>(((λ(out1:List qV)=>k (.exit 0) (mkS 28 28 [(5,v1 y4 out1 .O)] []))):(qW->Res))) (λv rec k=>by kernel_rfl) Z12 (out,t12) k) h⟩
noncomputable def j3z (t:qB×qE×qL) (r:List qV) (k0:qW->Res):Res:=
 j7f t.2.2 (nI (List.length t.2.2)) t r Z12 [] 0 λ(out:List qV)=>
  k0 out
noncomputable def j7O:Sig Unit:=⟨[.borrow y22 true,.borrow y4 true],[false],λvals ext k=>av vals y22 λt vals=>av vals y4 λr vals=>nl vals<|nl ext<|j3z t r (λ(r0:List qV)=>k [w1 y4 r0 .O] [] [])⟩
theorem jey:Z1p Tryz.prog 309 j7O:=j02 (np:=0) follows j01 (Z8K j8D Z94) [j9K] (oI 58 0 (jdk) oN) false Tryz.func309 λ_ _ k _ h=>aV h λ_ _ _ _ _ h=>aV h λ_ _ _ _ _ h=>nL h λ_ h=>nL h λ_ h=>by subst_vars;exact .trans (by kernel_rfl) h
noncomputable def j1M (a:List qV) (b:List qV) (i:Int) (rec:Int->Res) (k0:Unit->Res) (k1:Bool->Res):Res:=
 bif decide (i<(nI (List.length a))) then
  bif decide (i<(nI (List.length b))) then
   bif inb i (List.length a) then
    bif inb i (List.length b) then
     bif !(((nth (0,0,eS) a i).1==(nth (0,0,eS) b i).1)&&(((nth (0,0,eS) a i).2.1==(nth (0,0,eS) b i).2.1)&&(sEq (nth (0,0,eS) a i).2.2 (nth (0,0,eS) b i).2.2))) then
      bif inb i (List.length a) then
       bif inb i (List.length b) then
        j4m (nth (0,0,eS) a i) (nth (0,0,eS) b i) λ(r:Bool)=>
         k1 r
       else none
      else none
     else
      rec (Z8o (i+1))
    else none
   else none
  else
   k0 ()
 else
  k0 ()
noncomputable def j51 (a:List qV) (b:List qV):Int->(Int->Res)->((Unit->Res)×(Bool->Res))->Res:=λv rec q=>j1M a b v (λi=>rec (i)) q.1 q.2
noncomputable def j6H (a:List qV) (b:List qV) (n:Nat) (i:Int) (k0:Unit->Res) (k1:Bool->Res):Res:=Z14 (j51 a b) n (i) (k0,k1)
noncomputable def j9i:Z1q Unit:=λσ k=>rdN σ 41<|rd1 σ 0 y4 .S λa=>rd1 σ 1 y4 .S λb=>rdI σ 5 λi=>j6H a b Z12 i (λ(_:Unit)=>k (.exit 0) (mkS 41 41 [(0,v1 y4 a .S),(1,v1 y4 b .S)] [])) (λ(t4:Bool)=>k .ret (mkS 41 41 [(4,vB t4)] []))
theorem jcD {W0:Base} {M:Nat->Prop} (hnp:W0.np<=0):Z22 Tryz.prog W0 M (cAt 26 (bo Tryz.f345)) j9i:=j0a follows j01 (Z8K ja3 Z94) hnp [] oN [0,1,5] [] ([],[]) [(0,[0,1],[])] ([4],[]) λσ k _ h=>rN h λhn h=>rV h λa h0 h=>rV h λb h1 h=>rV h λi h5 h=>⟨_,Z9m (m:=41) hn (sC h0 (sC h1 (sC h5 sN))) bN,.trans (Z88 (λv:Int=>(mkS 41 41 [(0,v1 y4 a .S),(1,v1 y4 b .S),(5,vI v)] [])) (j51 a b) (λ(k:Z6O Unit)=>(((λ(_:Unit)=>k (.exit 0) (mkS 41 41 [(0,v1 y4 a .S),(1,v1 y4 b .S)] [])),(λ(t4:Bool)=>k .ret (mkS 41 41 [(4,vB t4)] []))):(Unit->Res)×(Bool->Res))) (λv rec k=>by kernel_rfl) Z12 (i) k) h⟩
noncomputable def j4l (a:List qV) (b:List qV) (k0:Bool->Res):Res:=
 j6H a b Z12 0
  (λ(_:Unit)=>
   k0 (decide ((nI (List.length a))<(nI (List.length b)))))
  (λ(t:Bool)=>
   k0 t)
noncomputable def j7b:Sig Unit:=⟨[.look y4 false,.look y4 false],[false],λvals ext k=>av vals y4 λa vals=>av vals y4 λb vals=>nl vals<|nl ext<|j4l a b (λ(r0:Bool)=>k [wB r0] [] [])⟩
theorem jdM:Z1p Tryz.prog 345 j7b:=j02 (np:=0) follows j01 (Z8K ja3 Z94) [j9i] (oI 26 0 (jcD) oN) false Tryz.func345 λ_ _ k _ h=>aV h λ_ _ _ _ _ h=>aV h λ_ _ _ _ _ h=>nL h λ_ h=>nL h λ_ h=>by subst_vars;exact .trans (by kernel_rfl) h
theorem jaG:Fns Tryz.prog [(202,j3f),(307,j9a),(309,j7O),(345,j7b)]:=(Z8K j4r (Z8K jfh (Z8K jey (Z8K jdM Z94))))
noncomputable def j1j (l:List qW) (t15:List qW) (t16:Int) (t:qB×qE×qL) (t17:Int) (rec:Int->Res) (k0:Unit->Res) (k1:Unit->Res):Res:=
 bif decide (t17<t16) then
  bif inb t17 (List.length t15) then
   j4O t (nth [] t15 t17) λ(r:Bool)=>
    bif !r then
     k1 ()
    else
     bif decide (t17>0) then
      bif inb (Z8o (t17-1)) (List.length l) then
       j3z t (nth [] l (Z8o (t17-1))) λ(r1:List qV)=>
        j3z t (nth [] t15 t17) λ(r2:List qV)=>
         j4l r1 r2 λ(r3:Bool)=>
          bif !r3 then
           k1 ()
          else
           rec (Z8o (t17+1))
      else none
     else
      rec (Z8o (t17+1))
  else none
 else
  k0 ()
noncomputable def j3n (l:List qW) (t15:List qW) (t16:Int) (t:qB×qE×qL):Int->(Int->Res)->((Unit->Res)×(Unit->Res))->Res:=λv rec q=>j1j l t15 t16 t v (λt17=>rec (t17)) q.1 q.2
noncomputable def j4P (l:List qW) (t15:List qW) (t16:Int) (t:qB×qE×qL) (n:Nat) (t17:Int) (k0:Unit->Res) (k1:Unit->Res):Res:=Z14 (j3n l t15 t16 t) n (t17) (k0,k1)
noncomputable def j6T:Z1q Unit:=λσ k=>rdN σ 45<|rd1 σ 1 y24 .S λl=>rdT σ 2 (pB 2)<|rd1 σ 15 y24 .S λt15=>rdI σ 16 λt16=>rdI σ 17 λt17=>rdB σ 2 y22 [.S,.S] λa t=>j4P l t15 t16 t Z12 t17 (λ(_:Unit)=>k (.exit 0) (mkS 45 45 [] [])) (λ(_:Unit)=>k .ret (mkS 45 45 [(4,vB false)] []))
theorem jdi {W0:Base} {M:Nat->Prop} (hnp:W0.np<=0):Z22 Tryz.prog W0 M (cAt 58 (bo Tryz.f306)) j6T:=j0a follows j01 jaG hnp [] oN [1,2,15,16,17] [2] ([],[]) [(0,[],[])] ([4],[]) λσ k _ h=>rN h λhn h=>rV h λl h1 h=>rT h λh2 h=>rV h λt15 h15 h=>rV h λt16 h16 h=>rV h λt17 h17 h=>rB h λa t hb2 h=>⟨_,Z9m (m:=45) hn (sC h1 (sC h2 (sC h15 (sC h16 (sC h17 sN))))) (bC hb2 bN),.trans (Z88 (λv:Int=>(mkS 45 45 [(1,v1 y24 l .S),(2,pB 2),(15,v1 y24 t15 .S),(16,vI t16),(17,vI v)] [(2,⟨y22,a,t,[.S,.S]⟩)])) (j3n l t15 t16 t) (λ(k:Z6O Unit)=>(((λ(_:Unit)=>k (.exit 0) (mkS 45 45 [] [])),(λ(_:Unit)=>k .ret (mkS 45 45 [(4,vB false)] []))):(Unit->Res)×(Unit->Res))) (λv rec k=>by delta j3n j1j j9a j7O j7b;refine gz j4O λ_ e=> ?_;rewrite [<-e];refine gz j3z λ_ e=> ?_;rewrite [<-e];refine gz j4l λ_ e=> ?_;rewrite [<-e];kernel_rfl) Z12 (t17) k) h⟩
noncomputable def j5f (t:qB×qE×qL) (l:List qW) (k0:Bool->Res):Res:=
 j0P t λ(r:Bool)=>
  bif !r then
   k0 false
  else
   bif decide ((nI (List.length l))>60) then
    k0 false
   else
    j4P l l (nI (List.length l)) t Z12 0
     (λ(_:Unit)=>
      k0 true)
     (λ(_:Unit)=>
      k0 false)
noncomputable def jb3:Sig Unit:=⟨[.look y22 true,.look y24 false],[false],λvals ext k=>av vals y22 λt vals=>av vals y24 λl vals=>nl vals<|nl ext<|j5f t l (λ(r0:Bool)=>k [wB r0] [] [])⟩
theorem jew:Z1p Tryz.prog 306 jb3:=j02 (np:=0) follows j01 jaG [j6T] (oI 58 0 (jdi) oN) false Tryz.func306 λ_ _ k _ h=>aV h λ_ _ _ _ _ h=>aV h λ_ _ _ _ _ h=>nL h λ_ h=>nL h λ_ h=>by subst_vars;exact .trans (by delta j5f j3f j6T;refine gz j0P λ_ e=> ?_;rewrite [<-e];refine gz j4P λ_ e=> ?_;rewrite [<-e];kernel_rfl) h
noncomputable def j9V (r:List qV) (k0:qW->Res):Res:=
 bif lim (0+(List.length r)) then
  k0 r
 else none
noncomputable def jeV:Sig Unit:=⟨[.borrow y4 true],[true],λvals ext k=>av vals y4 λr vals=>nl vals<|nl ext<|j9V r (λ(r0:List qV)=>k [⟨y4,true,r0,[.O]⟩] [] [])⟩
theorem jaR:Z1p Tryz.prog 241 jeV:=j02 (np:=0) follows j01 Z94 [] oN false Tryz.func241 λ_ _ k _ h=>aV h λ_ _ _ _ _ h=>nL h λ_ h=>nL h λ_ h=>by subst_vars;exact .trans (by kernel_rfl) h
noncomputable def j1P (t7:List qW) (t8:Int) (out:List qW) (t9:Int) (rec:qR->Int->Res) (k0:qR->Res):Res:=
 bif decide (t9<t8) then
  bif inb t9 (List.length t7) then
   j9V (nth [] t7 t9) λ(r:List qV)=>
    bif lim ((List.length out)+1) then
     rec (out++[r]) (Z8o (t9+1))
    else none
  else none
 else
  k0 out
noncomputable def j54 (t7:List qW) (t8:Int):(qR×Int)->(qR×Int->Res)->((qR->Res))->Res:=λv rec q=>j1P t7 t8 v.1 v.2 (λout t9=>rec (out,t9)) q
noncomputable def j6N (t7:List qW) (t8:Int) (n:Nat) (out:List qW) (t9:Int) (k0:qR->Res):Res:=Z14 (j54 t7 t8) n (out,t9) (k0)
noncomputable def j9k:Z1q Unit:=λσ k=>rdN σ 20<|rd1 σ 3 y24 .O λout=>rd1 σ 7 y24 .S λt7=>rdI σ 8 λt8=>rdI σ 9 λt9=>j6N t7 t8 Z12 out t9 (λ(out1:List qW)=>k (.exit 0) (mkS 20 20 [(3,v1 y24 out1 .O)] []))
theorem jcI {W0:Base} {M:Nat->Prop} (hnp:W0.np<=0):Z22 Tryz.prog W0 M (cAt 58 (bo Tryz.f274)) j9k:=j0a follows j01 (Z8K jaR Z94) hnp [] oN [3,7,8,9] [] ([],[]) [(0,[3],[])] ([],[]) λσ k _ h=>rN h λhn h=>rV h λout h3 h=>rV h λt7 h7 h=>rV h λt8 h8 h=>rV h λt9 h9 h=>⟨_,Z9m (m:=20) hn (sC h3 (sC h7 (sC h8 (sC h9 sN)))) bN,.trans (Z88 (λv:qR×Int=>(mkS 20 20 [(3,v1 y24 v.1 .O),(7,v1 y24 t7 .S),(8,vI t8),(9,vI v.2)] [])) (j54 t7 t8) (λ(k:Z6O Unit)=>(((λ(out1:List qW)=>k (.exit 0) (mkS 20 20 [(3,v1 y24 out1 .O)] []))):(qR->Res))) (λv rec k=>by kernel_rfl) Z12 (out,t9) k) h⟩
noncomputable def j6M (l:List qW) (k0:qR->Res):Res:=
 j6N l (nI (List.length l)) Z12 [] 0 λ(out:List qW)=>
  k0 out
noncomputable def jal:Sig Unit:=⟨[.borrow y24 false],[false],λvals ext k=>av vals y24 λl vals=>nl vals<|nl ext<|j6M l (λ(r0:List qW)=>k [w1 y24 r0 .O] [] [])⟩
theorem jdO:Z1p Tryz.prog 274 jal:=j02 (np:=0) follows j01 (Z8K jaR Z94) [j9k] (oI 58 0 (jcI) oN) false Tryz.func274 λ_ _ k _ h=>aV h λ_ _ _ _ _ h=>nL h λ_ h=>nL h λ_ h=>by subst_vars;exact .trans (by kernel_rfl) h
noncomputable def j7j (c:qB×Int×Bool×Bool×Int×Int×qB) (v_:Int×Int×qB) (k0:Bool->Res):Res:=
 j1l v_ λ(r:Bool)=>
  bif r then
   bif (v_.1==c.2.1) then
    k0 true
   else
    bif (v_.1==0) then
     k0 (!c.2.2.1)
    else
     k0 false
  else
   k0 false
noncomputable def jeI:Sig Unit:=⟨[.look y8 true,.look y3 true],[false],λvals ext k=>av vals y8 λc vals=>av vals y3 λv_ vals=>nl vals<|nl ext<|j7j c v_ (λ(r0:Bool)=>k [wB r0] [] [])⟩
theorem jaJ:Z1p Tryz.prog 379 jeI:=j02 (np:=0) follows j01 (Z8K j8s Z94) [] oN false Tryz.func379 λ_ _ k _ h=>aV h λ_ _ _ _ _ h=>aV h λ_ _ _ _ _ h=>nL h λ_ h=>nL h λ_ h=>by subst_vars;exact .trans (by kernel_rfl) h
noncomputable def j2H (t15:List qV) (t16:Int) (t:qB×qE×qL) (t17:Int) (rec:Int->Res) (k0:Unit->Res) (k1:Unit->Res):Res:=
 bif decide (t17<t16) then
  bif inb t17 (List.length t15) then
   bif inb t17 (List.length t.2.1) then
    j7j (nth (eS,0,false,false,0,0,eS) t.2.1 t17) (nth (0,0,eS) t15 t17) λ(r:Bool)=>
     bif !r then
      k1 ()
     else
      rec (Z8o (t17+1))
   else none
  else none
 else
  k0 ()
noncomputable def j6g (t15:List qV) (t16:Int) (t:qB×qE×qL):Int->(Int->Res)->((Unit->Res)×(Unit->Res))->Res:=λv rec q=>j2H t15 t16 t v (λt17=>rec (t17)) q.1 q.2
noncomputable def j7K (t15:List qV) (t16:Int) (t:qB×qE×qL) (n:Nat) (t17:Int) (k0:Unit->Res) (k1:Unit->Res):Res:=Z14 (j6g t15 t16 t) n (t17) (k0,k1)
noncomputable def jas:Z1q Unit:=λσ k=>rdN σ 31<|rdT σ 2 (pB 2)<|rd1 σ 15 y4 .S λt15=>rdI σ 16 λt16=>rdI σ 17 λt17=>rdB σ 2 y22 [.S,.S] λa t=>j7K t15 t16 t Z12 t17 (λ(_:Unit)=>k (.exit 0) (mkS 31 31 [] [])) (λ(_:Unit)=>k .ret (mkS 31 31 [(4,vB false)] []))
theorem jdW {W0:Base} {M:Nat->Prop} (hnp:W0.np<=0):Z22 Tryz.prog W0 M (cAt 58 (bo Tryz.f363)) jas:=j0a follows j01 (Z8K jaJ Z94) hnp [] oN [2,15,16,17] [2] ([],[]) [(0,[],[])] ([4],[]) λσ k _ h=>rN h λhn h=>rT h λh2 h=>rV h λt15 h15 h=>rV h λt16 h16 h=>rV h λt17 h17 h=>rB h λa t hb2 h=>⟨_,Z9m (m:=31) hn (sC h2 (sC h15 (sC h16 (sC h17 sN)))) (bC hb2 bN),.trans (Z88 (λv:Int=>(mkS 31 31 [(2,pB 2),(15,v1 y4 t15 .S),(16,vI t16),(17,vI v)] [(2,⟨y22,a,t,[.S,.S]⟩)])) (j6g t15 t16 t) (λ(k:Z6O Unit)=>(((λ(_:Unit)=>k (.exit 0) (mkS 31 31 [] [])),(λ(_:Unit)=>k .ret (mkS 31 31 [(4,vB false)] []))):(Unit->Res)×(Unit->Res))) (λv rec k=>by kernel_rfl) Z12 (t17) k) h⟩
noncomputable def j6f (t:qB×qE×qL) (r:List qV) (k0:Bool->Res):Res:=
 bif ((nI (List.length r)) != (nI (List.length t.2.1))) then
  k0 false
 else
  j7K r (nI (List.length r)) t Z12 0
   (λ(_:Unit)=>
    k0 true)
   (λ(_:Unit)=>
    k0 false)
noncomputable def j91:Sig Unit:=⟨[.look y22 true,.look y4 true],[false],λvals ext k=>av vals y22 λt vals=>av vals y4 λr vals=>nl vals<|nl ext<|j6f t r (λ(r0:Bool)=>k [wB r0] [] [])⟩
theorem jf4:Z1p Tryz.prog 363 j91:=j02 (np:=0) follows j01 (Z8K jaJ Z94) [jas] (oI 58 0 (jdW) oN) false Tryz.func363 λ_ _ k _ h=>aV h λ_ _ _ _ _ h=>aV h λ_ _ _ _ _ h=>nL h λ_ h=>nL h λ_ h=>by subst_vars;exact .trans (by kernel_rfl) h
noncomputable def j2G (t10:qL) (t11:Int) (t:qB×qE×qL) (r:List qV) (out:List qV) (t12:Int) (rec:qW->Int->Res) (k0:qW->Res):Res:=
 bif decide (t12<t11) then
  bif inb t12 (List.length t10) then
   j3h t (nth eS t10 t12) λ(r1:Int)=>
    bif inb r1 (List.length r) then
     bif lim ((List.length out)+1) then
      rec (out++[nth (0,0,eS) r r1]) (Z8o (t12+1))
     else none
    else none
  else none
 else
  k0 out
noncomputable def j6e (t10:qL) (t11:Int) (t:qB×qE×qL) (r:List qV):(qW×Int)->(qW×Int->Res)->((qW->Res))->Res:=λv rec q=>j2G t10 t11 t r v.1 v.2 (λout t12=>rec (out,t12)) q
noncomputable def j7J (t10:qL) (t11:Int) (t:qB×qE×qL) (r:List qV) (n:Nat) (out:List qV) (t12:Int) (k0:qW->Res):Res:=Z14 (j6e t10 t11 t r) n (out,t12) (k0)
noncomputable def jar:Z1q Unit:=λσ k=>rdN σ 28<|rdT σ 2 (pB 2)<|rdT σ 3 (pB 3)<|rd1 σ 5 y4 .O λout=>rd1 σ 10 y1 .S λt10=>rdI σ 11 λt11=>rdI σ 12 λt12=>rdB σ 2 y22 [.S,.S] λa t=>rdB σ 3 y4 [.S] λa1 r=>j7J t10 t11 t r Z12 out t12 (λ(out1:List qV)=>k (.exit 0) (mkS 28 28 [(5,v1 y4 out1 .O)] []))
theorem jdV {W0:Base} {M:Nat->Prop} (hnp:W0.np<=0):Z22 Tryz.prog W0 M (cAt 58 (bo Tryz.f365)) jar:=j0a follows j01 (Z8K j8r Z94) hnp [] oN [2,3,5,10,11,12] [2,3] ([],[]) [(0,[5],[])] ([],[]) λσ k _ h=>rN h λhn h=>rT h λh2 h=>rT h λh3 h=>rV h λout h5 h=>rV h λt10 h10 h=>rV h λt11 h11 h=>rV h λt12 h12 h=>rB h λa t hb2 h=>rB h λa1 r hb3 h=>⟨_,Z9m (m:=28) hn (sC h2 (sC h3 (sC h5 (sC h10 (sC h11 (sC h12 sN)))))) (bC hb2 (bC hb3 bN)),.trans (Z88 (λv:qW×Int=>(mkS 28 28 [(2,pB 2),(3,pB 3),(5,v1 y4 v.1 .O),(10,v1 y1 t10 .S),(11,vI t11),(12,vI v.2)] [(2,⟨y22,a,t,[.S,.S]⟩),(3,⟨y4,a1,r,[.S]⟩)])) (j6e t10 t11 t r) (λ(k:Z6O Unit)=>(((λ(out1:List qV)=>k (.exit 0) (mkS 28 28 [(5,v1 y4 out1 .O)] []))):(qW->Res))) (λv rec k=>by kernel_rfl) Z12 (out,t12) k) h⟩
noncomputable def j4y (t:qB×qE×qL) (r:List qV) (k0:qW->Res):Res:=
 j7J t.2.2 (nI (List.length t.2.2)) t r Z12 [] 0 λ(out:List qV)=>
  k0 out
noncomputable def j90:Sig Unit:=⟨[.borrow y22 true,.borrow y4 true],[false],λvals ext k=>av vals y22 λt vals=>av vals y4 λr vals=>nl vals<|nl ext<|j4y t r (λ(r0:List qV)=>k [w1 y4 r0 .O] [] [])⟩
theorem jf3:Z1p Tryz.prog 365 j90:=j02 (np:=0) follows j01 (Z8K j8r Z94) [jar] (oI 58 0 (jdV) oN) false Tryz.func365 λ_ _ k _ h=>aV h λ_ _ _ _ _ h=>aV h λ_ _ _ _ _ h=>nL h λ_ h=>nL h λ_ h=>by subst_vars;exact .trans (by kernel_rfl) h
noncomputable def j1E (a:List qV) (b:List qV) (i:Int) (rec:Int->Res) (k0:Unit->Res) (k1:Bool->Res):Res:=
 bif decide (i<(nI (List.length a))) then
  bif decide (i<(nI (List.length b))) then
   bif inb i (List.length a) then
    bif inb i (List.length b) then
     bif !(((nth (0,0,eS) a i).1==(nth (0,0,eS) b i).1)&&(((nth (0,0,eS) a i).2.1==(nth (0,0,eS) b i).2.1)&&(sEq (nth (0,0,eS) a i).2.2 (nth (0,0,eS) b i).2.2))) then
      bif inb i (List.length a) then
       bif inb i (List.length b) then
        j3V (nth (0,0,eS) a i) (nth (0,0,eS) b i) λ(r:Bool)=>
         k1 r
       else none
      else none
     else
      rec (Z8o (i+1))
    else none
   else none
  else
   k0 ()
 else
  k0 ()
noncomputable def j4Q (a:List qV) (b:List qV):Int->(Int->Res)->((Unit->Res)×(Bool->Res))->Res:=λv rec q=>j1E a b v (λi=>rec (i)) q.1 q.2
noncomputable def j6a (a:List qV) (b:List qV) (n:Nat) (i:Int) (k0:Unit->Res) (k1:Bool->Res):Res:=Z14 (j4Q a b) n (i) (k0,k1)
noncomputable def j9b:Z1q Unit:=λσ k=>rdN σ 41<|rd1 σ 0 y4 .S λa=>rd1 σ 1 y4 .S λb=>rdI σ 5 λi=>j6a a b Z12 i (λ(_:Unit)=>k (.exit 0) (mkS 41 41 [(0,v1 y4 a .S),(1,v1 y4 b .S)] [])) (λ(t4:Bool)=>k .ret (mkS 41 41 [(4,vB t4)] []))
theorem jcu {W0:Base} {M:Nat->Prop} (hnp:W0.np<=0):Z22 Tryz.prog W0 M (cAt 26 (bo Tryz.f364)) j9b:=j0a follows j01 (Z8K j9Y Z94) hnp [] oN [0,1,5] [] ([],[]) [(0,[0,1],[])] ([4],[]) λσ k _ h=>rN h λhn h=>rV h λa h0 h=>rV h λb h1 h=>rV h λi h5 h=>⟨_,Z9m (m:=41) hn (sC h0 (sC h1 (sC h5 sN))) bN,.trans (Z88 (λv:Int=>(mkS 41 41 [(0,v1 y4 a .S),(1,v1 y4 b .S),(5,vI v)] [])) (j4Q a b) (λ(k:Z6O Unit)=>(((λ(_:Unit)=>k (.exit 0) (mkS 41 41 [(0,v1 y4 a .S),(1,v1 y4 b .S)] [])),(λ(t4:Bool)=>k .ret (mkS 41 41 [(4,vB t4)] []))):(Unit->Res)×(Bool->Res))) (λv rec k=>by kernel_rfl) Z12 (i) k) h⟩
noncomputable def j3U (a:List qV) (b:List qV) (k0:Bool->Res):Res:=
 j6a a b Z12 0
  (λ(_:Unit)=>
   k0 (decide ((nI (List.length a))<(nI (List.length b)))))
  (λ(t:Bool)=>
   k0 t)
noncomputable def j78:Sig Unit:=⟨[.look y4 false,.look y4 false],[false],λvals ext k=>av vals y4 λa vals=>av vals y4 λb vals=>nl vals<|nl ext<|j3U a b (λ(r0:Bool)=>k [wB r0] [] [])⟩
theorem jdw:Z1p Tryz.prog 364 j78:=j02 (np:=0) follows j01 (Z8K j9Y Z94) [j9b] (oI 26 0 (jcu) oN) false Tryz.func364 λ_ _ k _ h=>aV h λ_ _ _ _ _ h=>aV h λ_ _ _ _ _ h=>nL h λ_ h=>nL h λ_ h=>by subst_vars;exact .trans (by kernel_rfl) h
theorem jaE:Fns Tryz.prog [(253,j79),(363,j91),(364,j78),(365,j90)]:=(Z8K j6Z (Z8K jf4 (Z8K jdw (Z8K jf3 Z94))))
noncomputable def j1h (l:List qW) (t15:List qW) (t16:Int) (t:qB×qE×qL) (t17:Int) (rec:Int->Res) (k0:Unit->Res) (k1:Unit->Res):Res:=
 bif decide (t17<t16) then
  bif inb t17 (List.length t15) then
   j6f t (nth [] t15 t17) λ(r:Bool)=>
    bif !r then
     k1 ()
    else
     bif decide (t17>0) then
      bif inb (Z8o (t17-1)) (List.length l) then
       j4y t (nth [] l (Z8o (t17-1))) λ(r1:List qV)=>
        j4y t (nth [] t15 t17) λ(r2:List qV)=>
         j3U r1 r2 λ(r3:Bool)=>
          bif !r3 then
           k1 ()
          else
           rec (Z8o (t17+1))
      else none
     else
      rec (Z8o (t17+1))
  else none
 else
  k0 ()
noncomputable def j3i (l:List qW) (t15:List qW) (t16:Int) (t:qB×qE×qL):Int->(Int->Res)->((Unit->Res)×(Unit->Res))->Res:=λv rec q=>j1h l t15 t16 t v (λt17=>rec (t17)) q.1 q.2
noncomputable def j4u (l:List qW) (t15:List qW) (t16:Int) (t:qB×qE×qL) (n:Nat) (t17:Int) (k0:Unit->Res) (k1:Unit->Res):Res:=Z14 (j3i l t15 t16 t) n (t17) (k0,k1)
noncomputable def j6O:Z1q Unit:=λσ k=>rdN σ 45<|rd1 σ 1 y24 .S λl=>rdT σ 2 (pB 2)<|rd1 σ 15 y24 .S λt15=>rdI σ 16 λt16=>rdI σ 17 λt17=>rdB σ 2 y22 [.S,.S] λa t=>j4u l t15 t16 t Z12 t17 (λ(_:Unit)=>k (.exit 0) (mkS 45 45 [] [])) (λ(_:Unit)=>k .ret (mkS 45 45 [(4,vB false)] []))
theorem jd4 {W0:Base} {M:Nat->Prop} (hnp:W0.np<=0):Z22 Tryz.prog W0 M (cAt 58 (bo Tryz.f332)) j6O:=j0a follows j01 jaE hnp [] oN [1,2,15,16,17] [2] ([],[]) [(0,[],[])] ([4],[]) λσ k _ h=>rN h λhn h=>rV h λl h1 h=>rT h λh2 h=>rV h λt15 h15 h=>rV h λt16 h16 h=>rV h λt17 h17 h=>rB h λa t hb2 h=>⟨_,Z9m (m:=45) hn (sC h1 (sC h2 (sC h15 (sC h16 (sC h17 sN))))) (bC hb2 bN),.trans (Z88 (λv:Int=>(mkS 45 45 [(1,v1 y24 l .S),(2,pB 2),(15,v1 y24 t15 .S),(16,vI t16),(17,vI v)] [(2,⟨y22,a,t,[.S,.S]⟩)])) (j3i l t15 t16 t) (λ(k:Z6O Unit)=>(((λ(_:Unit)=>k (.exit 0) (mkS 45 45 [] [])),(λ(_:Unit)=>k .ret (mkS 45 45 [(4,vB false)] []))):(Unit->Res)×(Unit->Res))) (λv rec k=>by delta j3i j1h j91 j90 j78;refine gz j6f λ_ e=> ?_;rewrite [<-e];refine gz j4y λ_ e=> ?_;rewrite [<-e];refine gz j3U λ_ e=> ?_;rewrite [<-e];kernel_rfl) Z12 (t17) k) h⟩
noncomputable def j57 (t:qB×qE×qL) (l:List qW) (k0:Bool->Res):Res:=
 j1n t λ(r:Bool)=>
  bif !r then
   k0 false
  else
   bif decide ((nI (List.length l))>60) then
    k0 false
   else
    j4u l l (nI (List.length l)) t Z12 0
     (λ(_:Unit)=>
      k0 true)
     (λ(_:Unit)=>
      k0 false)
noncomputable def jaV:Sig Unit:=⟨[.look y22 true,.look y24 false],[false],λvals ext k=>av vals y22 λt vals=>av vals y24 λl vals=>nl vals<|nl ext<|j57 t l (λ(r0:Bool)=>k [wB r0] [] [])⟩
theorem jej:Z1p Tryz.prog 332 jaV:=j02 (np:=0) follows j01 jaE [j6O] (oI 58 0 (jd4) oN) false Tryz.func332 λ_ _ k _ h=>aV h λ_ _ _ _ _ h=>aV h λ_ _ _ _ _ h=>nL h λ_ h=>nL h λ_ h=>by subst_vars;exact .trans (by delta j57 j79 j6O;refine gz j1n λ_ e=> ?_;rewrite [<-e];refine gz j4u λ_ e=> ?_;rewrite [<-e];kernel_rfl) h
noncomputable def j7I (l:List qV) (k0:qW->Res):Res:=
 bif lim (0+(List.length l)) then
  k0 l
 else none
noncomputable def jdl:Sig Unit:=⟨[.borrow y4 false],[false],λvals ext k=>av vals y4 λl vals=>nl vals<|nl ext<|j7I l (λ(r0:List qV)=>k [w1 y4 r0 .O] [] [])⟩
theorem j9m:Z1p Tryz.prog 301 jdl:=j02 (np:=0) follows j01 Z94 [] oN false Tryz.func301 λ_ _ k _ h=>aV h λ_ _ _ _ _ h=>nL h λ_ h=>nL h λ_ h=>by subst_vars;exact .trans (by kernel_rfl) h
noncomputable def j1o (t6:List qW) (t7:Int) (out:List qW) (t8:Int) (rec:qR->Int->Res) (k0:qR->Res):Res:=
 bif decide (t8<t7) then
  bif inb t8 (List.length t6) then
   j7I (nth [] t6 t8) λ(r:List qV)=>
    bif lim ((List.length out)+1) then
     rec (out++[r]) (Z8o (t8+1))
    else none
  else none
 else
  k0 out
noncomputable def j3Y (t6:List qW) (t7:Int):(qR×Int)->(qR×Int->Res)->((qR->Res))->Res:=λv rec q=>j1o t6 t7 v.1 v.2 (λout t8=>rec (out,t8)) q
noncomputable def j5B (t6:List qW) (t7:Int) (n:Nat) (out:List qW) (t8:Int) (k0:qR->Res):Res:=Z14 (j3Y t6 t7) n (out,t8) (k0)
noncomputable def j80:Z1q Unit:=λσ k=>rdN σ 21<|rd1 σ 3 y24 .O λout=>rd1 σ 6 y24 .S λt6=>rdI σ 7 λt7=>rdI σ 8 λt8=>j5B t6 t7 Z12 out t8 (λ(out1:List qW)=>k (.exit 0) (mkS 21 21 [(3,v1 y24 out1 .O)] []))
theorem jbM {W0:Base} {M:Nat->Prop} (hnp:W0.np<=0):Z22 Tryz.prog W0 M (cAt 58 (bo Tryz.f279)) j80:=j0a follows j01 (Z8K j9m Z94) hnp [] oN [3,6,7,8] [] ([],[]) [(0,[3],[])] ([],[]) λσ k _ h=>rN h λhn h=>rV h λout h3 h=>rV h λt6 h6 h=>rV h λt7 h7 h=>rV h λt8 h8 h=>⟨_,Z9m (m:=21) hn (sC h3 (sC h6 (sC h7 (sC h8 sN)))) bN,.trans (Z88 (λv:qR×Int=>(mkS 21 21 [(3,v1 y24 v.1 .O),(6,v1 y24 t6 .S),(7,vI t7),(8,vI v.2)] [])) (j3Y t6 t7) (λ(k:Z6O Unit)=>(((λ(out1:List qW)=>k (.exit 0) (mkS 21 21 [(3,v1 y24 out1 .O)] []))):(qR->Res))) (λv rec k=>by kernel_rfl) Z12 (out,t8) k) h⟩
noncomputable def j5m (l:List qW) (k0:qR->Res):Res:=
 j5B l (nI (List.length l)) Z12 [] 0 λ(out:List qW)=>
  k0 out
noncomputable def j9t:Sig Unit:=⟨[.borrow y24 false],[false],λvals ext k=>av vals y24 λl vals=>nl vals<|nl ext<|j5m l (λ(r0:List qW)=>k [w1 y24 r0 .O] [] [])⟩
theorem jcQ:Z1p Tryz.prog 279 j9t:=j02 (np:=0) follows j01 (Z8K j9m Z94) [j80] (oI 58 0 (jbM) oN) false Tryz.func279 λ_ _ k _ h=>aV h λ_ _ _ _ _ h=>nL h λ_ h=>nL h λ_ h=>by subst_vars;exact .trans (by kernel_rfl) h
end Go.PI.G
namespace Go.PI.G
open Go Go.PI Go.Proofs
open Go.Code (pl pr)
theorem jce:Fns Tryz.prog [(306,jb3),(328,j97)]:=(Z8K jew (Z8K jfd Z94))
noncomputable def j3g (t21:List qT) (t22:Int) (d:qF×List qR) (t23:Int) (rec:Int->Res) (k0:Unit->Res) (k1:Unit->Res):Res:=
 bif decide (t23<t22) then
  bif inb t23 (List.length t21) then
   bif inb t23 (List.length d.2) then
    j5f (nth (eS,[],[]) t21 t23) (nth [] d.2 t23) λ(r:Bool)=>
     bif !r then
      k1 ()
     else
      rec (Z8o (t23+1))
   else none
  else none
 else
  k0 ()
noncomputable def j7d (t21:List qT) (t22:Int) (d:qF×List qR):Int->(Int->Res)->((Unit->Res)×(Unit->Res))->Res:=λv rec q=>j3g t21 t22 d v (λt23=>rec (t23)) q.1 q.2
noncomputable def j6G (t21:List qT) (t22:Int) (d:qF×List qR) (n:Nat) (t23:Int) (k0:Unit->Res) (k1:Unit->Res):Res:=Z14 (j7d t21 t22 d) n (t23) (k0,k1)
noncomputable def j7S:Z1q Unit:=λσ k=>rdN σ 38<|rdT σ 1 (pB 1)<|rd1 σ 21 y23 .S λt21=>rdI σ 22 λt22=>rdI σ 23 λt23=>rdB σ 1 y26 [.S,.S] λa d=>j6G t21 t22 d Z12 t23 (λ(_:Unit)=>k (.exit 0) (mkS 38 38 [] [])) (λ(_:Unit)=>k .ret (mkS 38 38 [(2,vB false)] []))
theorem jeG {W0:Base} {M:Nat->Prop} (hnp:W0.np<=0):Z22 Tryz.prog W0 M (cAt 58 (bo Tryz.f272)) j7S:=j0a follows j01 jce hnp [] oN [1,21,22,23] [1] ([],[]) [(0,[],[])] ([2],[]) λσ k _ h=>rN h λhn h=>rT h λh1 h=>rV h λt21 h21 h=>rV h λt22 h22 h=>rV h λt23 h23 h=>rB h λa d hb1 h=>⟨_,Z9m (m:=38) hn (sC h1 (sC h21 (sC h22 (sC h23 sN)))) (bC hb1 bN),.trans (Z88 (λv:Int=>(mkS 38 38 [(1,pB 1),(21,v1 y23 t21 .S),(22,vI t22),(23,vI v)] [(1,⟨y26,a,d,[.S,.S]⟩)])) (j7d t21 t22 d) (λ(k:Z6O Unit)=>(((λ(_:Unit)=>k (.exit 0) (mkS 38 38 [] [])),(λ(_:Unit)=>k .ret (mkS 38 38 [(2,vB false)] []))):(Unit->Res)×(Unit->Res))) (λv rec k=>by kernel_rfl) Z12 (t23) k) h⟩
noncomputable def j62 (d:qF×List qR) (k0:Bool->Res):Res:=
 j6C d.1 λ(r:Bool)=>
  bif !r then
   k0 false
  else
   bif ((nI (List.length d.2)) != (nI (List.length d.1))) then
    k0 false
   else
    j6G d.1 (nI (List.length d.1)) d Z12 0
     (λ(_:Unit)=>
      k0 true)
     (λ(_:Unit)=>
      k0 false)
noncomputable def jcn:Sig Unit:=⟨[.look y26 true],[false],λvals ext k=>av vals y26 λd vals=>nl vals<|nl ext<|j62 d (λ(r0:Bool)=>k [wB r0] [] [])⟩
theorem jch:Z1p Tryz.prog 272 jcn:=j02 (np:=0) follows j01 jce [j7S] (oI 58 0 (jeG) oN) false Tryz.func272 λ_ _ k _ h=>aV h λ_ _ _ _ _ h=>nL h λ_ h=>nL h λ_ h=>by subst_vars;exact .trans (by delta j62 j97 j7S;refine gz j6C λ_ e=> ?_;rewrite [<-e];refine gz j6G λ_ e=> ?_;rewrite [<-e];kernel_rfl) h
noncomputable def j2S (t10:List qR) (t11:Int) (n_:Int) (t12:Int) (rec:Int->Int->Res) (k0:Int->Res):Res:=
 bif decide (t12<t11) then
  bif inb t12 (List.length t10) then
   rec (Z8o (n_+(nI (List.length (nth [] t10 t12))))) (Z8o (t12+1))
  else none
 else
  k0 n_
noncomputable def j6F (t10:List qR) (t11:Int):(Int×Int)->(Int×Int->Res)->((Int->Res))->Res:=λv rec q=>j2S t10 t11 v.1 v.2 (λn_ t12=>rec (n_,t12)) q
noncomputable def j5u (t10:List qR) (t11:Int) (n:Nat) (n_:Int) (t12:Int) (k0:Int->Res):Res:=Z14 (j6F t10 t11) n (n_,t12) (k0)
noncomputable def j7h:Z1q Unit:=λσ k=>rdN σ 23<|rdI σ 3 λn_=>rd1 σ 10 y25 .S λt10=>rdI σ 11 λt11=>rdI σ 12 λt12=>j5u t10 t11 Z12 n_ t12 (λ(n_1:Int)=>k (.exit 0) (mkS 23 23 [(3,vI n_1)] []))
theorem jdZ {W0:Base} {M:Nat->Prop} (hnp:W0.np<=0):Z22 Tryz.prog W0 M (cAt 122 (bo Tryz.f216)) j7h:=j0a follows j01 (Z8K jch Z94) hnp [] oN [3,10,11,12] [] ([],[]) [(0,[3],[])] ([],[]) λσ k _ h=>rN h λhn h=>rV h λn_ h3 h=>rV h λt10 h10 h=>rV h λt11 h11 h=>rV h λt12 h12 h=>⟨_,Z9m (m:=23) hn (sC h3 (sC h10 (sC h11 (sC h12 sN)))) bN,.trans (Z88 (λv:Int×Int=>(mkS 23 23 [(3,vI v.1),(10,v1 y25 t10 .S),(11,vI t11),(12,vI v.2)] [])) (j6F t10 t11) (λ(k:Z6O Unit)=>(((λ(n_1:Int)=>k (.exit 0) (mkS 23 23 [(3,vI n_1)] []))):(Int->Res))) (λv rec k=>by kernel_rfl) Z12 (n_,t12) k) h⟩
noncomputable def j4N (d:qF×List qR) (k0:Int->Res):Res:=
 j62 d λ(r:Bool)=>
  bif !r then
   k0 (-1)
  else
   j5u d.2 (nI (List.length d.2)) Z12 0 0 λ(n_:Int)=>
    k0 n_
noncomputable def jbD:Sig Unit:=⟨[.look y26 true],[false],λvals ext k=>av vals y26 λd vals=>nl vals<|nl ext<|j4N d (λ(r0:Int)=>k [wI r0] [] [])⟩
theorem jff:Z1p Tryz.prog 216 jbD:=j02 (np:=0) follows j01 (Z8K jch Z94) [j7h] (oI 122 0 (jdZ) oN) false Tryz.func216 λ_ _ k _ h=>aV h λ_ _ _ _ _ h=>nL h λ_ h=>nL h λ_ h=>by subst_vars;exact .trans (by delta j4N jcn j7h;refine gz j62 λ_ e=> ?_;rewrite [<-e];refine gz j5u λ_ e=> ?_;rewrite [<-e];kernel_rfl) h
theorem j9X:Fns Tryz.prog [(273,j7c),(274,jal)]:=(Z8K jdN (Z8K jdO Z94))
noncomputable def j1Q (t11:List qR) (t12:Int) (t13:Int) (out:qF×List qR) (rec:Int->qD->Res) (k0:qD->Res):Res:=
 bif decide (t13<t12) then
  bif inb t13 (List.length t11) then
   j6M (nth [] t11 t13) λ(r:List qW)=>
    bif lim ((List.length out.2)+1) then
     rec (Z8o (t13+1)) (out.1,(out.2++[r]))
    else none
  else none
 else
  k0 out
noncomputable def j55 (t11:List qR) (t12:Int):(Int×qD)->(Int×qD->Res)->((qD->Res))->Res:=λv rec q=>j1Q t11 t12 v.1 v.2 (λt13 out=>rec (t13,out)) q
noncomputable def j3R (t11:List qR) (t12:Int) (n:Nat) (t13:Int) (out:qF×List qR) (k0:qD->Res):Res:=Z14 (j55 t11 t12) n (t13,out) (k0)
noncomputable def j5Z:Z1q Unit:=λσ k=>rdN σ 28<|rdT σ 2 (pB 2)<|rdT σ 3 (pB 3)<|rd1 σ 11 y25 .S λt11=>rdI σ 12 λt12=>rdI σ 13 λt13=>rdB σ 2 y26 [.O,.O] λa t2=>rdB σ 3 y26 [.O,.O] λa1 out=>j3R t11 t12 Z12 t13 out (λ(out1:qF×List qR)=>k (.exit 0) (mkS 28 28 [(2,pB 2),(3,pB 3)] [(2,⟨y26,a,t2,[.O,.O]⟩),(3,⟨y26,a1,out1,[.O,.O]⟩)]))
theorem jcJ {W0:Base} {M:Nat->Prop} (hnp:W0.np<=0):Z22 Tryz.prog W0 M (cAt 58 (bo Tryz.f217)) j5Z:=j0a follows j01 j9X hnp [] oN [2,3,11,12,13] [2,3] ([],[]) [(0,[2,3],[2,3])] ([],[]) λσ k _ h=>rN h λhn h=>rT h λh2 h=>rT h λh3 h=>rV h λt11 h11 h=>rV h λt12 h12 h=>rV h λt13 h13 h=>rB h λa t2 hb2 h=>rB h λa1 out hb3 h=>⟨_,Z9m (m:=28) hn (sC h2 (sC h3 (sC h11 (sC h12 (sC h13 sN))))) (bC hb2 (bC hb3 bN)),.trans (Z88 (λv:Int×qD=>(mkS 28 28 [(2,pB 2),(3,pB 3),(11,v1 y25 t11 .S),(12,vI t12),(13,vI v.1)] [(2,⟨y26,a,t2,[.O,.O]⟩),(3,⟨y26,a1,v.2,[.O,.O]⟩)])) (j55 t11 t12) (λ(k:Z6O Unit)=>(((λ(out1:qF×List qR)=>k (.exit 0) (mkS 28 28 [(2,pB 2),(3,pB 3)] [(2,⟨y26,a,t2,[.O,.O]⟩),(3,⟨y26,a1,out1,[.O,.O]⟩)]))):(qD->Res))) (λv rec k=>by kernel_rfl) Z12 (t13,out) k) h⟩
noncomputable def j2t (d:qF×List qR) (k0:qD->Res):Res:=
 j4n d.1 λ(r:List qT)=>
  j3R d.2 (nI (List.length d.2)) Z12 0 (r,[]) λ(out:qF×List qR)=>
   k0 out
noncomputable def jan:Sig Unit:=⟨[.borrow y26 true],[true],λvals ext k=>av vals y26 λd vals=>nl vals<|nl ext<|j2t d (λ(r0:qF×List qR)=>k [⟨y26,true,r0,[.O,.O]⟩] [] [])⟩
theorem ja4:Z1p Tryz.prog 217 jan:=j02 (np:=0) follows j01 j9X [j5Z] (oI 58 0 (jcJ) oN) false Tryz.func217 λ_ _ k _ h=>aV h λ_ _ _ _ _ h=>nL h λ_ h=>nL h λ_ h=>by subst_vars;exact .trans (by delta j2t j7c j5Z;refine gz j4n λ_ e=> ?_;rewrite [<-e];refine gz j3R λ_ e=> ?_;rewrite [<-e];kernel_rfl) h
theorem jcd:Fns Tryz.prog [(331,j8V),(332,jaV)]:=(Z8K jeZ (Z8K jej Z94))
noncomputable def j38 (t21:List qT) (t22:Int) (d:qF×List qR) (t23:Int) (rec:Int->Res) (k0:Unit->Res) (k1:Unit->Res):Res:=
 bif decide (t23<t22) then
  bif inb t23 (List.length t21) then
   bif inb t23 (List.length d.2) then
    j57 (nth (eS,[],[]) t21 t23) (nth [] d.2 t23) λ(r:Bool)=>
     bif !r then
      k1 ()
     else
      rec (Z8o (t23+1))
   else none
  else none
 else
  k0 ()
noncomputable def j71 (t21:List qT) (t22:Int) (d:qF×List qR):Int->(Int->Res)->((Unit->Res)×(Unit->Res))->Res:=λv rec q=>j38 t21 t22 d v (λt23=>rec (t23)) q.1 q.2
noncomputable def j69 (t21:List qT) (t22:Int) (d:qF×List qR) (n:Nat) (t23:Int) (k0:Unit->Res) (k1:Unit->Res):Res:=Z14 (j71 t21 t22 d) n (t23) (k0,k1)
noncomputable def j7R:Z1q Unit:=λσ k=>rdN σ 38<|rdT σ 1 (pB 1)<|rd1 σ 21 y23 .S λt21=>rdI σ 22 λt22=>rdI σ 23 λt23=>rdB σ 1 y26 [.S,.S] λa d=>j69 t21 t22 d Z12 t23 (λ(_:Unit)=>k (.exit 0) (mkS 38 38 [] [])) (λ(_:Unit)=>k .ret (mkS 38 38 [(2,vB false)] []))
theorem jeF {W0:Base} {M:Nat->Prop} (hnp:W0.np<=0):Z22 Tryz.prog W0 M (cAt 58 (bo Tryz.f277)) j7R:=j0a follows j01 jcd hnp [] oN [1,21,22,23] [1] ([],[]) [(0,[],[])] ([2],[]) λσ k _ h=>rN h λhn h=>rT h λh1 h=>rV h λt21 h21 h=>rV h λt22 h22 h=>rV h λt23 h23 h=>rB h λa d hb1 h=>⟨_,Z9m (m:=38) hn (sC h1 (sC h21 (sC h22 (sC h23 sN)))) (bC hb1 bN),.trans (Z88 (λv:Int=>(mkS 38 38 [(1,pB 1),(21,v1 y23 t21 .S),(22,vI t22),(23,vI v)] [(1,⟨y26,a,d,[.S,.S]⟩)])) (j71 t21 t22 d) (λ(k:Z6O Unit)=>(((λ(_:Unit)=>k (.exit 0) (mkS 38 38 [] [])),(λ(_:Unit)=>k .ret (mkS 38 38 [(2,vB false)] []))):(Unit->Res)×(Unit->Res))) (λv rec k=>by kernel_rfl) Z12 (t23) k) h⟩
noncomputable def j60 (d:qF×List qR) (k0:Bool->Res):Res:=
 j66 d.1 λ(r:Bool)=>
  bif !r then
   k0 false
  else
   bif ((nI (List.length d.2)) != (nI (List.length d.1))) then
    k0 false
   else
    j69 d.1 (nI (List.length d.1)) d Z12 0
     (λ(_:Unit)=>
      k0 true)
     (λ(_:Unit)=>
      k0 false)
noncomputable def jcm:Sig Unit:=⟨[.look y26 true],[false],λvals ext k=>av vals y26 λd vals=>nl vals<|nl ext<|j60 d (λ(r0:Bool)=>k [wB r0] [] [])⟩
theorem jcf:Z1p Tryz.prog 277 jcm:=j02 (np:=0) follows j01 jcd [j7R] (oI 58 0 (jeF) oN) false Tryz.func277 λ_ _ k _ h=>aV h λ_ _ _ _ _ h=>nL h λ_ h=>nL h λ_ h=>by subst_vars;exact .trans (by delta j60 j8V j7R;refine gz j66 λ_ e=> ?_;rewrite [<-e];refine gz j69 λ_ e=> ?_;rewrite [<-e];kernel_rfl) h
noncomputable def j2C (t10:List qR) (t11:Int) (n_:Int) (t12:Int) (rec:Int->Int->Res) (k0:Int->Res):Res:=
 bif decide (t12<t11) then
  bif inb t12 (List.length t10) then
   rec (Z8o (n_+(nI (List.length (nth [] t10 t12))))) (Z8o (t12+1))
  else none
 else
  k0 n_
noncomputable def j68 (t10:List qR) (t11:Int):(Int×Int)->(Int×Int->Res)->((Int->Res))->Res:=λv rec q=>j2C t10 t11 v.1 v.2 (λn_ t12=>rec (n_,t12)) q
noncomputable def j5l (t10:List qR) (t11:Int) (n:Nat) (n_:Int) (t12:Int) (k0:Int->Res):Res:=Z14 (j68 t10 t11) n (n_,t12) (k0)
noncomputable def j7g:Z1q Unit:=λσ k=>rdN σ 23<|rdI σ 3 λn_=>rd1 σ 10 y25 .S λt10=>rdI σ 11 λt11=>rdI σ 12 λt12=>j5l t10 t11 Z12 n_ t12 (λ(n_1:Int)=>k (.exit 0) (mkS 23 23 [(3,vI n_1)] []))
theorem jdT {W0:Base} {M:Nat->Prop} (hnp:W0.np<=0):Z22 Tryz.prog W0 M (cAt 122 (bo Tryz.f220)) j7g:=j0a follows j01 (Z8K jcf Z94) hnp [] oN [3,10,11,12] [] ([],[]) [(0,[3],[])] ([],[]) λσ k _ h=>rN h λhn h=>rV h λn_ h3 h=>rV h λt10 h10 h=>rV h λt11 h11 h=>rV h λt12 h12 h=>⟨_,Z9m (m:=23) hn (sC h3 (sC h10 (sC h11 (sC h12 sN)))) bN,.trans (Z88 (λv:Int×Int=>(mkS 23 23 [(3,vI v.1),(10,v1 y25 t10 .S),(11,vI t11),(12,vI v.2)] [])) (j68 t10 t11) (λ(k:Z6O Unit)=>(((λ(n_1:Int)=>k (.exit 0) (mkS 23 23 [(3,vI n_1)] []))):(Int->Res))) (λv rec k=>by kernel_rfl) Z12 (n_,t12) k) h⟩
noncomputable def j4t (d:qF×List qR) (k0:Int->Res):Res:=
 j60 d λ(r:Bool)=>
  bif !r then
   k0 (-1)
  else
   j5l d.2 (nI (List.length d.2)) Z12 0 0 λ(n_:Int)=>
    k0 n_
noncomputable def jbu:Sig Unit:=⟨[.look y26 true],[false],λvals ext k=>av vals y26 λd vals=>nl vals<|nl ext<|j4t d (λ(r0:Int)=>k [wI r0] [] [])⟩
theorem jf1:Z1p Tryz.prog 220 jbu:=j02 (np:=0) follows j01 (Z8K jcf Z94) [j7g] (oI 122 0 (jdT) oN) false Tryz.func220 λ_ _ k _ h=>aV h λ_ _ _ _ _ h=>nL h λ_ h=>nL h λ_ h=>by subst_vars;exact .trans (by delta j4t jcm j7g;refine gz j60 λ_ e=> ?_;rewrite [<-e];refine gz j5l λ_ e=> ?_;rewrite [<-e];kernel_rfl) h
theorem jaF:Fns Tryz.prog [(278,j7a),(279,j9t)]:=(Z8K jdx (Z8K jcQ Z94))
noncomputable def j24 (t11:List qR) (t12:Int) (t13:Int) (out:qF×List qR) (rec:Int->qD->Res) (k0:qD->Res):Res:=
 bif decide (t13<t12) then
  bif inb t13 (List.length t11) then
   j5m (nth [] t11 t13) λ(r:List qW)=>
    bif lim ((List.length out.2)+1) then
     rec (Z8o (t13+1)) (out.1,(out.2++[r]))
    else none
  else none
 else
  k0 out
noncomputable def j5A (t11:List qR) (t12:Int):(Int×qD)->(Int×qD->Res)->((qD->Res))->Res:=λv rec q=>j24 t11 t12 v.1 v.2 (λt13 out=>rec (t13,out)) q
noncomputable def j4w (t11:List qR) (t12:Int) (n:Nat) (t13:Int) (out:qF×List qR) (k0:qD->Res):Res:=Z14 (j5A t11 t12) n (t13,out) (k0)
noncomputable def j6Q:Z1q Unit:=λσ k=>rdN σ 28<|rdT σ 2 (pB 2)<|rdT σ 3 (pB 3)<|rd1 σ 11 y25 .S λt11=>rdI σ 12 λt12=>rdI σ 13 λt13=>rdB σ 2 y26 [.O,.O] λa t2=>rdB σ 3 y26 [.O,.O] λa1 out=>j4w t11 t12 Z12 t13 out (λ(out1:qF×List qR)=>k (.exit 0) (mkS 28 28 [(2,pB 2),(3,pB 3)] [(2,⟨y26,a,t2,[.O,.O]⟩),(3,⟨y26,a1,out1,[.O,.O]⟩)]))
theorem jd6 {W0:Base} {M:Nat->Prop} (hnp:W0.np<=0):Z22 Tryz.prog W0 M (cAt 58 (bo Tryz.f221)) j6Q:=j0a follows j01 jaF hnp [] oN [2,3,11,12,13] [2,3] ([],[]) [(0,[2,3],[2,3])] ([],[]) λσ k _ h=>rN h λhn h=>rT h λh2 h=>rT h λh3 h=>rV h λt11 h11 h=>rV h λt12 h12 h=>rV h λt13 h13 h=>rB h λa t2 hb2 h=>rB h λa1 out hb3 h=>⟨_,Z9m (m:=28) hn (sC h2 (sC h3 (sC h11 (sC h12 (sC h13 sN))))) (bC hb2 (bC hb3 bN)),.trans (Z88 (λv:Int×qD=>(mkS 28 28 [(2,pB 2),(3,pB 3),(11,v1 y25 t11 .S),(12,vI t12),(13,vI v.1)] [(2,⟨y26,a,t2,[.O,.O]⟩),(3,⟨y26,a1,v.2,[.O,.O]⟩)])) (j5A t11 t12) (λ(k:Z6O Unit)=>(((λ(out1:qF×List qR)=>k (.exit 0) (mkS 28 28 [(2,pB 2),(3,pB 3)] [(2,⟨y26,a,t2,[.O,.O]⟩),(3,⟨y26,a1,out1,[.O,.O]⟩)]))):(qD->Res))) (λv rec k=>by kernel_rfl) Z12 (t13,out) k) h⟩
noncomputable def j2Y (d:qF×List qR) (k0:qD->Res):Res:=
 j3W d.1 λ(r:List qT)=>
  j4w d.2 (nI (List.length d.2)) Z12 0 (r,[]) λ(out:qF×List qR)=>
   k0 out
noncomputable def jaW:Sig Unit:=⟨[.borrow y26 true],[true],λvals ext k=>av vals y26 λd vals=>nl vals<|nl ext<|j2Y d (λ(r0:qF×List qR)=>k [⟨y26,true,r0,[.O,.O]⟩] [] [])⟩
theorem jaI:Z1p Tryz.prog 221 jaW:=j02 (np:=0) follows j01 jaF [j6Q] (oI 58 0 (jd6) oN) false Tryz.func221 λ_ _ k _ h=>aV h λ_ _ _ _ _ h=>nL h λ_ h=>nL h λ_ h=>by subst_vars;exact .trans (by delta j2Y j7a j6Q;refine gz j3W λ_ e=> ?_;rewrite [<-e];refine gz j4w λ_ e=> ?_;rewrite [<-e];kernel_rfl) h
end Go.PI.G
namespace Go.PI.G
open Go Go.PI Go.Proofs
open Go.Code (pl pr)
noncomputable def j3y (d:qF×List qR) (k0:(qD×Int×Int)->Bool->Res):Res:=
 j4N d λ(r:Int)=>
  bif (r != 0) then
   k0 (([],[]),0,0) false
  else
   j2t d λ(r1:qF×List qR)=>
    k0 (r1,0,0) true
noncomputable def jb2:Sig Unit:=⟨[.borrow y26 true],[true,false],λvals ext k=>av vals y26 λd vals=>nl vals<|nl ext<|j3y d (λ(r0:qD×Int×Int) (r1:Bool)=>k [⟨y29,true,r0,[.O,.O]⟩,wB r1] [] [])⟩
theorem jev:Z1p Tryz.prog 138 jb2:=j02 (np:=0) follows j01 (Z8K jff (Z8K ja4 Z94)) [] oN false Tryz.func138 λ_ _ k _ h=>aV h λ_ _ _ _ _ h=>nL h λ_ h=>nL h λ_ h=>by subst_vars;exact .trans (by delta j3y jbD jan;refine gz j4N λ_ e=> ?_;rewrite [<-e];refine gz j2t λ_ e=> ?_;rewrite [<-e];kernel_rfl) h
noncomputable def j3v (d:qF×List qR) (k0:(qD×Int×Int)->Bool->Res):Res:=
 j4t d λ(r:Int)=>
  bif (r != 0) then
   k0 (([],[]),0,0) false
  else
   j2Y d λ(r1:qF×List qR)=>
    k0 (r1,0,0) true
noncomputable def jaU:Sig Unit:=⟨[.borrow y26 true],[true,false],λvals ext k=>av vals y26 λd vals=>nl vals<|nl ext<|j3v d (λ(r0:qD×Int×Int) (r1:Bool)=>k [⟨y29,true,r0,[.O,.O]⟩,wB r1] [] [])⟩
theorem jei:Z1p Tryz.prog 142 jaU:=j02 (np:=0) follows j01 (Z8K jf1 (Z8K jaI Z94)) [] oN false Tryz.func142 λ_ _ k _ h=>aV h λ_ _ _ _ _ h=>nL h λ_ h=>nL h λ_ h=>by subst_vars;exact .trans (by delta j3v jbu jaW;refine gz j4t λ_ e=> ?_;rewrite [<-e];refine gz j2Y λ_ e=> ?_;rewrite [<-e];kernel_rfl) h
noncomputable def j3X (f:qD×Int×Int) (k0:(qD×Int×Int)->Res):Res:=
 j2Y f.1 λ(r:qF×List qR)=>
  k0 (r,f.2.1,f.2.2)
noncomputable def jaa:Sig Unit:=⟨[.borrow y29 true],[true],λvals ext k=>av vals y29 λf vals=>nl vals<|nl ext<|j3X f (λ(r0:qD×Int×Int)=>k [⟨y29,true,r0,[.O,.O]⟩] [] [])⟩
theorem jdy:Z1p Tryz.prog 144 jaa:=j02 (np:=0) follows j01 (Z8K jaI Z94) [] oN false Tryz.func144 λ_ _ k _ h=>aV h λ_ _ _ _ _ h=>nL h λ_ h=>nL h λ_ h=>by subst_vars;exact .trans (by kernel_rfl) h
end Go.PI.G
namespace Go.PI.G
open Go Go.PI Go.Proofs
open Go.Code (pl pr)
noncomputable def j2T (t6:qL) (t7:Int) (p:qL) (t8:Int) (rec:Int->Res) (k0:Unit->Res) (k1:Unit->Res):Res:=
 bif decide (t8<t7) then
  bif inb t8 (List.length t6) then
   j1Y (nth eS t6 t8) λ(r:Bool)=>
    bif !r then
     k1 ()
    else
     bif decide (t8>0) then
      bif inb (Z8o (t8-1)) (List.length p) then
       bif sGe (nth eS p (Z8o (t8-1))) (nth eS t6 t8) then
        k1 ()
       else
        rec (Z8o (t8+1))
      else none
     else
      rec (Z8o (t8+1))
  else none
 else
  k0 ()
noncomputable def j6J (t6:qL) (t7:Int) (p:qL):Int->(Int->Res)->((Unit->Res)×(Unit->Res))->Res:=λv rec q=>j2T t6 t7 p v (λt8=>rec (t8)) q.1 q.2
noncomputable def j7Q (t6:qL) (t7:Int) (p:qL) (n:Nat) (t8:Int) (k0:Unit->Res) (k1:Unit->Res):Res:=Z14 (j6J t6 t7 p) n (t8) (k0,k1)
noncomputable def jav:Z1q Unit:=λσ k=>rdN σ 35<|rdT σ 1 (pB 1)<|rd1 σ 6 y1 .S λt6=>rdI σ 7 λt7=>rdI σ 8 λt8=>rdB σ 1 y1 [.S] λa p=>j7Q t6 t7 p Z12 t8 (λ(_:Unit)=>k (.exit 0) (mkS 35 35 [(1,pB 1)] [(1,⟨y1,a,p,[.S]⟩)])) (λ(_:Unit)=>k .ret (mkS 35 35 [(2,vB false)] []))
theorem je0 {W0:Base} {M:Nat->Prop} (hnp:W0.np<=0):Z22 Tryz.prog W0 M (cAt 26 (bo Tryz.f78)) jav:=j0a follows j01 (Z8K j5j Z94) hnp [] oN [1,6,7,8] [1] ([],[]) [(0,[1],[1])] ([2],[]) λσ k _ h=>rN h λhn h=>rT h λh1 h=>rV h λt6 h6 h=>rV h λt7 h7 h=>rV h λt8 h8 h=>rB h λa p hb1 h=>⟨_,Z9m (m:=35) hn (sC h1 (sC h6 (sC h7 (sC h8 sN)))) (bC hb1 bN),.trans (Z88 (λv:Int=>(mkS 35 35 [(1,pB 1),(6,v1 y1 t6 .S),(7,vI t7),(8,vI v)] [(1,⟨y1,a,p,[.S]⟩)])) (j6J t6 t7 p) (λ(k:Z6O Unit)=>(((λ(_:Unit)=>k (.exit 0) (mkS 35 35 [(1,pB 1)] [(1,⟨y1,a,p,[.S]⟩)])),(λ(_:Unit)=>k .ret (mkS 35 35 [(2,vB false)] []))):(Unit->Res)×(Unit->Res))) (λv rec k=>by kernel_rfl) Z12 (t8) k) h⟩
noncomputable def j6I (p:qL) (k0:Bool->Res):Res:=
 j7Q p (nI (List.length p)) p Z12 0
  (λ(_:Unit)=>
   k0 (decide ((nI (List.length p))<=6)))
  (λ(_:Unit)=>
   k0 false)
noncomputable def jbE:Sig Unit:=⟨[.look y1 true],[false],λvals ext k=>av vals y1 λp vals=>nl vals<|nl ext<|j6I p (λ(r0:Bool)=>k [wB r0] [] [])⟩
theorem jfg:Z1p Tryz.prog 78 jbE:=j02 (np:=0) follows j01 (Z8K j5j Z94) [jav] (oI 26 0 (je0) oN) false Tryz.func78 λ_ _ k _ h=>aV h λ_ _ _ _ _ h=>nL h λ_ h=>nL h λ_ h=>by subst_vars;exact .trans (by kernel_rfl) h
noncomputable def j2D (t6:qL) (t7:Int) (p:qL) (t8:Int) (rec:Int->Res) (k0:Unit->Res) (k1:Unit->Res):Res:=
 bif decide (t8<t7) then
  bif inb t8 (List.length t6) then
   j1m (nth eS t6 t8) λ(r:Bool)=>
    bif !r then
     k1 ()
    else
     bif decide (t8>0) then
      bif inb (Z8o (t8-1)) (List.length p) then
       bif sGe (nth eS p (Z8o (t8-1))) (nth eS t6 t8) then
        k1 ()
       else
        rec (Z8o (t8+1))
      else none
     else
      rec (Z8o (t8+1))
  else none
 else
  k0 ()
noncomputable def j6c (t6:qL) (t7:Int) (p:qL):Int->(Int->Res)->((Unit->Res)×(Unit->Res))->Res:=λv rec q=>j2D t6 t7 p v (λt8=>rec (t8)) q.1 q.2
noncomputable def j7H (t6:qL) (t7:Int) (p:qL) (n:Nat) (t8:Int) (k0:Unit->Res) (k1:Unit->Res):Res:=Z14 (j6c t6 t7 p) n (t8) (k0,k1)
noncomputable def jaq:Z1q Unit:=λσ k=>rdN σ 35<|rdT σ 1 (pB 1)<|rd1 σ 6 y1 .S λt6=>rdI σ 7 λt7=>rdI σ 8 λt8=>rdB σ 1 y1 [.S] λa p=>j7H t6 t7 p Z12 t8 (λ(_:Unit)=>k (.exit 0) (mkS 35 35 [(1,pB 1)] [(1,⟨y1,a,p,[.S]⟩)])) (λ(_:Unit)=>k .ret (mkS 35 35 [(2,vB false)] []))
theorem jdU {W0:Base} {M:Nat->Prop} (hnp:W0.np<=0):Z22 Tryz.prog W0 M (cAt 26 (bo Tryz.f83)) jaq:=j0a follows j01 (Z8K j5i Z94) hnp [] oN [1,6,7,8] [1] ([],[]) [(0,[1],[1])] ([2],[]) λσ k _ h=>rN h λhn h=>rT h λh1 h=>rV h λt6 h6 h=>rV h λt7 h7 h=>rV h λt8 h8 h=>rB h λa p hb1 h=>⟨_,Z9m (m:=35) hn (sC h1 (sC h6 (sC h7 (sC h8 sN)))) (bC hb1 bN),.trans (Z88 (λv:Int=>(mkS 35 35 [(1,pB 1),(6,v1 y1 t6 .S),(7,vI t7),(8,vI v)] [(1,⟨y1,a,p,[.S]⟩)])) (j6c t6 t7 p) (λ(k:Z6O Unit)=>(((λ(_:Unit)=>k (.exit 0) (mkS 35 35 [(1,pB 1)] [(1,⟨y1,a,p,[.S]⟩)])),(λ(_:Unit)=>k .ret (mkS 35 35 [(2,vB false)] []))):(Unit->Res)×(Unit->Res))) (λv rec k=>by kernel_rfl) Z12 (t8) k) h⟩
noncomputable def j6b (p:qL) (k0:Bool->Res):Res:=
 j7H p (nI (List.length p)) p Z12 0
  (λ(_:Unit)=>
   k0 (decide ((nI (List.length p))<=6)))
  (λ(_:Unit)=>
   k0 false)
noncomputable def jbv:Sig Unit:=⟨[.look y1 true],[false],λvals ext k=>av vals y1 λp vals=>nl vals<|nl ext<|j6b p (λ(r0:Bool)=>k [wB r0] [] [])⟩
theorem jf2:Z1p Tryz.prog 83 jbv:=j02 (np:=0) follows j01 (Z8K j5i Z94) [jaq] (oI 26 0 (jdU) oN) false Tryz.func83 λ_ _ k _ h=>aV h λ_ _ _ _ _ h=>nL h λ_ h=>nL h λ_ h=>by subst_vars;exact .trans (by kernel_rfl) h
end Go.PI.G
namespace Go.PI.G
open Go Go.PI Go.Proofs
open Go.Code (pl pr)
noncomputable def j5g (f:qD×Int×Int) (k0:(qD×Int×Int)->Res):Res:=
 j2t f.1 λ(r:qF×List qR)=>
  k0 (r,f.2.1,f.2.2)
noncomputable def jb4:Sig Unit:=⟨[.borrow y29 true],[true],λvals ext k=>av vals y29 λf vals=>nl vals<|nl ext<|j5g f (λ(r0:qD×Int×Int)=>k [⟨y29,true,r0,[.O,.O]⟩] [] [])⟩
theorem jez:Z1p Tryz.prog 139 jb4:=j02 (np:=0) follows j01 (Z8K ja4 Z94) [] oN false Tryz.func139 λ_ _ k _ h=>aV h λ_ _ _ _ _ h=>nL h λ_ h=>nL h λ_ h=>by subst_vars;exact .trans (by kernel_rfl) h
noncomputable def j0R (p:qL) (d:qF×List qR) (k0:((List qP)×qL×(qD×Int×Int)×(qD×Int×Int)×List (List Int)×List Int)->Bool->Res):Res:=
 j3y d λ(r:qD×Int×Int) (r1:Bool)=>
  bif !r1 then
   k0 ([],[],(([],[]),0,0),(([],[]),0,0),[],[]) false
  else
   j6I p λ(r2:Bool)=>
    bif !r2 then
     k0 ([],[],(([],[]),0,0),(([],[]),0,0),[],[]) false
    else
     bif lim (0+(List.length p)) then
      Z6T
       (j5g r λ(r3:qD×Int×Int)=>
        k0 ([],p,r,r3,[],[]) true)
       (j5g r λ(r4:qD×Int×Int)=>
        k0 ([],p,r,r4,[],[]) true)
     else none
noncomputable def j6A:Sig Unit:=⟨[.borrow y1 true,.borrow y26 true],[true,false],λvals ext k=>av vals y1 λp vals=>av vals y26 λd vals=>nl vals<|nl ext<|j0R p d (λ(r0:(List qP)×qL×(qD×Int×Int)×(qD×Int×Int)×List (List Int)×List Int) (r1:Bool)=>k [⟨y36,true,r0,[.O,.O,.O,.O,.O,.O,.O,.O]⟩,wB r1] [] [])⟩
theorem jcY:Z1p Tryz.prog 47 j6A:=j02 (np:=0) follows j01 (Z8K jfg (Z8K jev (Z8K jez Z94))) [] oN false Tryz.func47 λ_ _ k _ h=>aV h λ_ _ _ _ _ h=>aV h λ_ _ _ _ _ h=>nL h λ_ h=>nL h λ_ h=>by subst_vars;exact .trans (by delta j0R jb2 jbE jb4;refine gz j3y λ_ e=> ?_;rewrite [<-e];refine gz j6I λ_ e=> ?_;rewrite [<-e];refine gz j5g λ_ e=> ?_;rewrite [<-e];kernel_rfl) h
noncomputable def j0z (p:qL) (d:qF×List qR) (k0:((List qP)×qL×(qD×Int×Int)×(qD×Int×Int)×List (List Int)×List Int)->Bool->Res):Res:=
 j3v d λ(r:qD×Int×Int) (r1:Bool)=>
  j6b p λ(r2:Bool)=>
   bif !r2 then
    k0 ([],[],(([],[]),0,0),(([],[]),0,0),[],[]) false
   else
    bif !r1 then
     k0 ([],[],(([],[]),0,0),(([],[]),0,0),[],[]) false
    else
     j1Z p λ(r3:qL)=>
      Z6T
       (j3X r λ(r4:qD×Int×Int)=>
        k0 ([],r3,r,r4,[],[]) true)
       (j3X r λ(r5:qD×Int×Int)=>
        k0 ([],r3,r,r5,[],[]) true)
noncomputable def j3P:Sig Unit:=⟨[.borrow y1 true,.borrow y26 true],[true,false],λvals ext k=>av vals y1 λp vals=>av vals y26 λd vals=>nl vals<|nl ext<|j0z p d (λ(r0:(List qP)×qL×(qD×Int×Int)×(qD×Int×Int)×List (List Int)×List Int) (r1:Bool)=>k [⟨y36,true,r0,[.O,.O,.O,.O,.O,.O,.O,.O]⟩,wB r1] [] [])⟩
theorem jcP:Z1p Tryz.prog 49 j3P:=j02 (np:=0) follows j01 (Z8K jf2 (Z8K jei (Z8K j8u (Z8K jdy Z94)))) [] oN false Tryz.func49 λ_ _ k _ h=>aV h λ_ _ _ _ _ h=>aV h λ_ _ _ _ _ h=>nL h λ_ h=>nL h λ_ h=>by subst_vars;exact .trans (by delta j0z jaU jbv j8Z jaa;refine gz j3v λ_ e=> ?_;rewrite [<-e];refine gz j6b λ_ e=> ?_;rewrite [<-e];refine gz j1Z λ_ e=> ?_;rewrite [<-e];refine gz j3X λ_ e=> ?_;rewrite [<-e];kernel_rfl) h
end Go.PI.G
namespace Go.PI.G
open Go Go.PI Go.Proofs
open Go.Code (pl pr)
noncomputable def j6t (a:Int×Int×qB) (left:Int) (k0:Int->Res):Res:=
 bif decide ((Z8o (left-(nI (ByteArray.size a.2.2))))<0) then
  k0 (-1)
 else
  k0 (Z8o (left-(nI (ByteArray.size a.2.2))))
noncomputable def jfI:Sig Unit:=⟨[.look y3 true,.look tI false],[false],λvals ext k=>av vals y3 λa vals=>av vals tI λleft vals=>nl vals<|nl ext<|j6t a left (λ(r0:Int)=>k [wI r0] [] [])⟩
theorem j8A:Z1p Tryz.prog 336 jfI:=j02 (np:=0) follows j01 Z94 [] oN false Tryz.func336 λ_ _ k _ h=>aV h λ_ _ _ _ _ h=>aV h λ_ _ _ _ _ h=>nL h λ_ h=>nL h λ_ h=>by subst_vars;exact .trans (by kernel_rfl) h
noncomputable def j6v (a:Int×Int×qB) (k0:qV->Res):Res:=
 k0 (a.1,a.2.1,a.2.2)
noncomputable def jfL:Sig Unit:=⟨[.look y3 true],[true],λvals ext k=>av vals y3 λa vals=>nl vals<|nl ext<|j6v a (λ(r0:Int×Int×qB)=>k [⟨y3,true,r0,[]⟩] [] [])⟩
theorem j8C:Z1p Tryz.prog 337 jfL:=j02 (np:=0) follows j01 Z94 [] oN false Tryz.func337 λ_ _ k _ h=>aV h λ_ _ _ _ _ h=>nL h λ_ h=>nL h λ_ h=>by subst_vars;exact .trans (by kernel_rfl) h
noncomputable def j6q (a:Int×Int×qB) (b:Int×Int×qB) (k0:Bool->Res):Res:=
 bif (a.1 != b.1) then
  k0 false
 else
  bif (a.2.1 != b.2.1) then
   k0 false
  else
   bif sNe a.2.2 b.2.2 then
    k0 false
   else
    k0 true
noncomputable def jfF:Sig Unit:=⟨[.look y3 true,.look y3 true],[false],λvals ext k=>av vals y3 λa vals=>av vals y3 λb vals=>nl vals<|nl ext<|j6q a b (λ(r0:Bool)=>k [wB r0] [] [])⟩
theorem j8w:Z1p Tryz.prog 343 jfF:=j02 (np:=0) follows j01 Z94 [] oN false Tryz.func343 λ_ _ k _ h=>aV h λ_ _ _ _ _ h=>aV h λ_ _ _ _ _ h=>nL h λ_ h=>nL h λ_ h=>by subst_vars;exact .trans (by kernel_rfl) h
end Go.PI.G
namespace Go.PI.G
open Go Go.PI Go.Proofs
open Go.Code (pl pr)
noncomputable def j8j (a:qB×Int×Bool×Bool×Int×Int×qB) (left:Int) (k0:Int->Res):Res:=
 bif decide ((Z8o (left-(nI (ByteArray.size a.1))))<0) then
  k0 (-1)
 else
  j6t a.2.2.2.2 (Z8o (left-(nI (ByteArray.size a.1)))) λ(r:Int)=>
   bif decide (r<0) then
    k0 (-1)
   else
    k0 r
noncomputable def jfG:Sig Unit:=⟨[.look y8 true,.look tI false],[false],λvals ext k=>av vals y8 λa vals=>av vals tI λleft vals=>nl vals<|nl ext<|j8j a left (λ(r0:Int)=>k [wI r0] [] [])⟩
theorem jbc:Z1p Tryz.prog 361 jfG:=j02 (np:=0) follows j01 (Z8K j8A Z94) [] oN false Tryz.func361 λ_ _ k _ h=>aV h λ_ _ _ _ _ h=>aV h λ_ _ _ _ _ h=>nL h λ_ h=>nL h λ_ h=>by subst_vars;exact .trans (by kernel_rfl) h
noncomputable def j8l (a:qB×Int×Bool×Bool×Int×Int×qB) (k0:qC->Res):Res:=
 j6v a.2.2.2.2 λ(r:Int×Int×qB)=>
  k0 (a.1,a.2.1,a.2.2.1,a.2.2.2.1,r)
noncomputable def jfJ:Sig Unit:=⟨[.look y8 true],[true],λvals ext k=>av vals y8 λa vals=>nl vals<|nl ext<|j8l a (λ(r0:qB×Int×Bool×Bool×Int×Int×qB)=>k [⟨y8,true,r0,[]⟩] [] [])⟩
theorem jbe:Z1p Tryz.prog 362 jfJ:=j02 (np:=0) follows j01 (Z8K j8C Z94) [] oN false Tryz.func362 λ_ _ k _ h=>aV h λ_ _ _ _ _ h=>nL h λ_ h=>nL h λ_ h=>by subst_vars;exact .trans (by kernel_rfl) h
noncomputable def j8h (a:qB×Int×Bool×Bool×Int×Int×qB) (b:qB×Int×Bool×Bool×Int×Int×qB) (k0:Bool->Res):Res:=
 bif sNe a.1 b.1 then
  k0 false
 else
  bif (a.2.1 != b.2.1) then
   k0 false
  else
   bif !(a.2.2.1==b.2.2.1) then
    k0 false
   else
    bif !(a.2.2.2.1==b.2.2.2.1) then
     k0 false
    else
     j6q a.2.2.2.2 b.2.2.2.2 λ(r:Bool)=>
      bif !r then
       k0 false
      else
       k0 true
noncomputable def jfD:Sig Unit:=⟨[.look y8 true,.look y8 true],[false],λvals ext k=>av vals y8 λa vals=>av vals y8 λb vals=>nl vals<|nl ext<|j8h a b (λ(r0:Bool)=>k [wB r0] [] [])⟩
theorem jb9:Z1p Tryz.prog 366 jfD:=j02 (np:=0) follows j01 (Z8K j8w Z94) [] oN false Tryz.func366 λ_ _ k _ h=>aV h λ_ _ _ _ _ h=>aV h λ_ _ _ _ _ h=>nL h λ_ h=>nL h λ_ h=>by subst_vars;exact .trans (by kernel_rfl) h
end Go.PI.G
namespace Go.PI.G
open Go Go.PI Go.Proofs
open Go.Code (pl pr)
noncomputable def j1v (k_:Int) (out:qB) (rec:Int->qB->Res) (k0:qB->Res):Res:=
 bif decide (k_>0) then
  bif lim ((ByteArray.size (Z34 [wu8 (Z8o (48+(Int.tmod k_ 10)))]))+(ByteArray.size out)) then
   rec (Z8o (Int.tdiv k_ 10)) ((Z34 [wu8 (Z8o (48+(Int.tmod k_ 10)))])++out)
  else none
 else
  k0 out
noncomputable def j2N:(Int×qB)->(Int×qB->Res)->((qB->Res))->Res:=λv rec q=>j1v v.1 v.2 (λk_ out=>rec (k_,out)) q
noncomputable def j5M (n:Nat) (k_:Int) (out:qB) (k0:qB->Res):Res:=Z14 (j2N) n (k_,out) (k0)
noncomputable def j8b:Z1q Unit:=λσ k=>rdN σ 20<|rdI σ 0 λk_=>rdS σ 3 λout=>j5M Z12 k_ out (λ(out1:qB)=>k (.exit 0) (mkS 20 20 [(3,vS out1)] []))
theorem jc7 {W0:Base} {M:Nat->Prop} (hnp:W0.np<=0):Z22 Tryz.prog W0 M (cAt 60 (bo Tryz.f175)) j8b:=j0a follows j01 Z94 hnp [] oN [0,3] [] ([],[]) [(0,[3],[])] ([],[]) λσ k _ h=>rN h λhn h=>rV h λk_ h0 h=>rV h λout h3 h=>⟨_,Z9m (m:=20) hn (sC h0 (sC h3 sN)) bN,.trans (Z88 (λv:Int×qB=>(mkS 20 20 [(0,vI v.1),(3,vS v.2)] [])) (j2N) (λ(k:Z6O Unit)=>(((λ(out1:qB)=>k (.exit 0) (mkS 20 20 [(3,vS out1)] []))):(qB->Res))) (λv rec k=>by kernel_rfl) Z12 (k_,out) k) h⟩
noncomputable def j0b (k_:Int) (k0:qB->Res):Res:=
 bif decide (k_<=0) then
  k0 jhz
 else
  j5M Z12 k_ eS λ(out:qB)=>
   bif lim (1+(ByteArray.size out)) then
    k0 (z_m++out)
   else none
noncomputable def j0t:Sig Unit:=⟨[.look tI false],[false],λvals ext k=>av vals tI λk_ vals=>nl vals<|nl ext<|j0b k_ (λ(r0:qB)=>k [wS r0] [] [])⟩
theorem j0f:Z1p Tryz.prog 175 j0t:=j02 (np:=0) follows j01 Z94 [j8b] (oI 60 0 (jc7) oN) false Tryz.func175 λ_ _ k _ h=>aV h λ_ _ _ _ _ h=>nL h λ_ h=>nL h λ_ h=>by subst_vars;exact .trans (by kernel_rfl) h
end Go.PI.G
