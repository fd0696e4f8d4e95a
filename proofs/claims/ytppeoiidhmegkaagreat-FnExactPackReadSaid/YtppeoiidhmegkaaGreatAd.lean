/-
  Program's code interpreted over typed values; printed texts; plain laws. No conditions.
-/
import Derived.Test.YtppeoiidhmegkaaGreatPc
import Derived.Test.YtppeoiidhmegkaaGreatAa
import Derived.Test.YtppeoiidhmegkaaGreatAc
set_option linter.unusedVariables false
set_option maxRecDepth 100000
namespace Go.PI.G
open Go Go.PI Go.Proofs
open Go.Code (pl pr)
noncomputable def j2V (a:List qV) (b:List qV) (i:Int) (rec:Int->Res) (k0:Unit->Res) (k1:Unit->Res):Res:=
 bif decide (i<(nI (List.length a))) then
  bif inb i (List.length a) then
   bif inb i (List.length b) then
    j78 (nth (0,0,eS) a i) (nth (0,0,eS) b i) λ(r:Bool)=>
     bif !r then
      k1 ()
     else
      rec (Z8o (i+1))
   else none
  else none
 else
  k0 ()
noncomputable def j98 (a:List qV) (b:List qV):Int->(Int->Res)->((Unit->Res)×(Unit->Res))->Res:=λv rec q=>j2V a b v (λi=>rec (i)) q.1 q.2
noncomputable def j7S (a:List qV) (b:List qV) (n:Nat) (i:Int) (k0:Unit->Res) (k1:Unit->Res):Res:=Z14 (j98 a b) n (i) (k0,k1)
noncomputable def j9D:Z1q Unit:=λσ k=>rdN σ 27<|rd1 σ 0 y3 .S λa=>rd1 σ 1 y3 .S λb=>rdI σ 5 λi=>j7S a b Z12 i (λ(_:Unit)=>k (.exit 0) (mkS 27 27 [] [])) (λ(_:Unit)=>k .ret (mkS 27 27 [(4,vB false)] []))
theorem jcU {W0:Base} {M:Nat->Prop} (hnp:W0.np<=0):Z22 Tryz.prog W0 M (cAt 58 (bo Tryz.f294)) j9D:=j0b follows j00 (Z8K j92 Z94) hnp [] oN [0,1,5] [] ([],[]) [(0,[],[])] ([4],[]) λσ k _ h=>rN h λhn h=>rV h λa h0 h=>rV h λb h1 h=>rV h λi h5 h=>⟨_,Z9m (m:=27) hn (sC h0 (sC h1 (sC h5 sN))) bN,.trans (Z88 (λv:Int=>(mkS 27 27 [(0,v1 y3 a .S),(1,v1 y3 b .S),(5,vI v)] [])) (j98 a b) (λ(k:Z6O Unit)=>(((λ(_:Unit)=>k (.exit 0) (mkS 27 27 [] [])),(λ(_:Unit)=>k .ret (mkS 27 27 [(4,vB false)] []))):(Unit->Res)×(Unit->Res))) (λv rec k=>by kernel_rfl) Z12 (i) k) h⟩
noncomputable def j4U (a:List qV) (b:List qV) (k0:Bool->Res):Res:=
 bif ((nI (List.length a)) != (nI (List.length b))) then
  k0 false
 else
  j7S a b Z12 0
   (λ(_:Unit)=>
    k0 true)
   (λ(_:Unit)=>
    k0 false)
noncomputable def jaE:Sig Unit:=⟨[.look y3 false,.look y3 false],[false],λvals ext k=>av vals y3 λa vals=>av vals y3 λb vals=>nl vals<|nl ext<|j4U a b (λ(r0:Bool)=>k [wB r0] [] [])⟩
theorem jax:Z1p Tryz.prog 294 jaE:=j04 (np:=0) follows j00 (Z8K j92 Z94) [j9D] (oI 58 0 (jcU) oN) false Tryz.func294 λ_ _ k _ h=>aV h λ_ _ _ _ _ h=>aV h λ_ _ _ _ _ h=>nL h λ_ h=>nL h λ_ h=>by subst_vars;exact .trans (by kernel_rfl) h
noncomputable def j23 (a:List qV) (k_:Int) (i:Int) (rec:qW->Int->Int->Res) (k0:qW->Int->Res):Res:=
 bif decide (i<(nI (List.length a))) then
  bif inb i (List.length a) then
   bif inb i (List.length (upd a i (k_,(nth (0,0,eS) a i).2))) then
    j09 (Z8o ((Z8o (k_+1))+1)) λ(r:qB)=>
     bif inb i (List.length (upd (upd a i (k_,(nth (0,0,eS) a i).2)) i ((nth (0,0,eS) (upd a i (k_,(nth (0,0,eS) a i).2)) i).1,Z8o (k_+1),(nth (0,0,eS) (upd a i (k_,(nth (0,0,eS) a i).2)) i).2.2))) then
      rec (upd (upd (upd a i (k_,(nth (0,0,eS) a i).2)) i ((nth (0,0,eS) (upd a i (k_,(nth (0,0,eS) a i).2)) i).1,Z8o (k_+1),(nth (0,0,eS) (upd a i (k_,(nth (0,0,eS) a i).2)) i).2.2)) i ((nth (0,0,eS) (upd (upd a i (k_,(nth (0,0,eS) a i).2)) i ((nth (0,0,eS) (upd a i (k_,(nth (0,0,eS) a i).2)) i).1,Z8o (k_+1),(nth (0,0,eS) (upd a i (k_,(nth (0,0,eS) a i).2)) i).2.2)) i).1,(nth (0,0,eS) (upd (upd a i (k_,(nth (0,0,eS) a i).2)) i ((nth (0,0,eS) (upd a i (k_,(nth (0,0,eS) a i).2)) i).1,Z8o (k_+1),(nth (0,0,eS) (upd a i (k_,(nth (0,0,eS) a i).2)) i).2.2)) i).2.1,r)) (Z8o ((Z8o ((Z8o (k_+1))+1))+1)) (Z8o (i+1))
     else none
   else none
  else none
 else
  k0 a k_
noncomputable def j5m:(qW×Int×Int)->(qW×Int×Int->Res)->((qW->Int->Res))->Res:=λv rec q=>j23 v.1 v.2.1 v.2.2 (λa k_ i=>rec (a,k_,i)) q
noncomputable def j6B (n:Nat) (a:List qV) (k_:Int) (i:Int) (k0:qW->Int->Res):Res:=Z14 (j5m) n (a,k_,i) (k0)
noncomputable def j8L:Z1q Unit:=λσ k=>rdN σ 35<|rd1 σ 0 y3 .O λa=>rdI σ 1 λk_=>rdI σ 5 λi=>j6B Z12 a k_ i (λ(a1:List qV) (k_1:Int)=>k (.exit 0) (mkS 35 35 [(0,v1 y3 a1 .O),(1,vI k_1)] []))
theorem jbC {W0:Base} {M:Nat->Prop} (hnp:W0.np<=1):Z22 Tryz.prog W0 M (cAt 26 (bo Tryz.f176)) j8L:=j0b follows j00 (Z8K j0e Z94) hnp [] oN [0,1,5] [] ([],[]) [(0,[0,1],[])] ([],[]) λσ k _ h=>rN h λhn h=>rV h λa h0 h=>rV h λk_ h1 h=>rV h λi h5 h=>⟨_,Z9m (m:=35) hn (sC h0 (sC h1 (sC h5 sN))) bN,.trans (Z88 (λv:qW×Int×Int=>(mkS 35 35 [(0,v1 y3 v.1 .O),(1,vI v.2.1),(5,vI v.2.2)] [])) (j5m) (λ(k:Z6O Unit)=>(((λ(a1:List qV) (k_1:Int)=>k (.exit 0) (mkS 35 35 [(0,v1 y3 a1 .O),(1,vI k_1)] []))):(qW->Int->Res))) (λv rec k=>by kernel_rfl) Z12 (a,k_,i) k) h⟩
noncomputable def j3p (a:List qV) (k_:Int) (k0:Int->qW->Res):Res:=
 j6B Z12 a k_ 0 λ(a1:List qV) (k_1:Int)=>
  k0 k_1 a1
noncomputable def j7j:Sig Unit:=⟨[.inout y3 false,.borrow tI false],[false],λvals ext k=>ao vals y3 [.O] λa vals=>av vals tI λk_ vals=>nl vals<|nl ext<|j3p a k_ (λ(r0:Int) (i0:List qV)=>k [wI r0] [w1 y3 i0 .O] [])⟩
theorem jcy:Z1p Tryz.prog 176 j7j:=j04 (np:=1) follows j00 (Z8K j0e Z94) [j8L] (oI 26 0 (jbC) oN) false Tryz.func176 λ_ _ k _ h=>aO h λ_ _ _ _ h=>aV h λ_ _ _ _ _ h=>nL h λ_ h=>nL h λ_ h=>by subst_vars;exact .trans (by kernel_rfl) h
noncomputable def j21 (a:List qV) (k_:Int) (i:Int) (rec:Int->Int->Res) (k0:Int->Res) (k1:Unit->Res):Res:=
 bif decide (i<(nI (List.length a))) then
  bif inb i (List.length a) then
   bif ((nth (0,0,eS) a i).1 != k_) then
    k1 ()
   else
    bif inb i (List.length a) then
     bif ((nth (0,0,eS) a i).2.1 != (Z8o (k_+1))) then
      k1 ()
     else
      bif inb i (List.length a) then
       j09 (Z8o ((Z8o (k_+1))+1)) λ(r:qB)=>
        bif sNe (nth (0,0,eS) a i).2.2 r then
         k1 ()
        else
         rec (Z8o ((Z8o ((Z8o (k_+1))+1))+1)) (Z8o (i+1))
      else none
    else none
  else none
 else
  k0 k_
noncomputable def j5l (a:List qV):(Int×Int)->(Int×Int->Res)->((Int->Res)×(Unit->Res))->Res:=λv rec q=>j21 a v.1 v.2 (λk_ i=>rec (k_,i)) q.1 q.2
noncomputable def j6y (a:List qV) (n:Nat) (k_:Int) (i:Int) (k0:Int->Res) (k1:Unit->Res):Res:=Z14 (j5l a) n (k_,i) (k0,k1)
noncomputable def j8I:Z1q Unit:=λσ k=>rdN σ 41<|rd1 σ 0 y3 .S λa=>rdI σ 1 λk_=>rdI σ 5 λi=>j6y a Z12 k_ i (λ(k_1:Int)=>k (.exit 0) (mkS 41 41 [(1,vI k_1)] [])) (λ(_:Unit)=>k .ret (mkS 41 41 [(4,vI (-1))] []))
theorem jbw {W0:Base} {M:Nat->Prop} (hnp:W0.np<=0):Z22 Tryz.prog W0 M (cAt 26 (bo Tryz.f178)) j8I:=j0b follows j00 (Z8K j0e Z94) hnp [] oN [0,1,5] [] ([],[]) [(0,[1],[])] ([4],[]) λσ k _ h=>rN h λhn h=>rV h λa h0 h=>rV h λk_ h1 h=>rV h λi h5 h=>⟨_,Z9m (m:=41) hn (sC h0 (sC h1 (sC h5 sN))) bN,.trans (Z88 (λv:Int×Int=>(mkS 41 41 [(0,v1 y3 a .S),(1,vI v.1),(5,vI v.2)] [])) (j5l a) (λ(k:Z6O Unit)=>(((λ(k_1:Int)=>k (.exit 0) (mkS 41 41 [(1,vI k_1)] [])),(λ(_:Unit)=>k .ret (mkS 41 41 [(4,vI (-1))] []))):(Int->Res)×(Unit->Res))) (λv rec k=>by kernel_rfl) Z12 (k_,i) k) h⟩
noncomputable def j3o (a:List qV) (k_:Int) (k0:Int->Res):Res:=
 j6y a Z12 k_ 0
  (λ(k_1:Int)=>
   k0 k_1)
  (λ(_:Unit)=>
   k0 (-1))
noncomputable def j7g:Sig Unit:=⟨[.look y3 false,.look tI false],[false],λvals ext k=>av vals y3 λa vals=>av vals tI λk_ vals=>nl vals<|nl ext<|j3o a k_ (λ(r0:Int)=>k [wI r0] [] [])⟩
theorem jcv:Z1p Tryz.prog 178 j7g:=j04 (np:=0) follows j00 (Z8K j0e Z94) [j8I] (oI 26 0 (jbw) oN) false Tryz.func178 λ_ _ k _ h=>aV h λ_ _ _ _ _ h=>aV h λ_ _ _ _ _ h=>nL h λ_ h=>nL h λ_ h=>by subst_vars;exact .trans (by kernel_rfl) h
end Go.PI.G
namespace Go.PI.G
open Go Go.PI Go.Proofs
open Go.Code (pl pr)
noncomputable def j77 (a:List qV) (b:List qV) (k0:Bool->Res):Res:=
 j4U a b λ(r:Bool)=>
  bif !r then
   k0 false
  else
   k0 true
noncomputable def jbc:Sig Unit:=⟨[.look y3 true,.look y3 true],[false],λvals ext k=>av vals y3 λa vals=>av vals y3 λb vals=>nl vals<|nl ext<|j77 a b (λ(r0:Bool)=>k [wB r0] [] [])⟩
theorem jew:Z1p Tryz.prog 295 jbc:=j04 (np:=0) follows j00 (Z8K jax Z94) [] oN false Tryz.func295 λ_ _ k _ h=>aV h λ_ _ _ _ _ h=>aV h λ_ _ _ _ _ h=>nL h λ_ h=>nL h λ_ h=>by subst_vars;exact .trans (by kernel_rfl) h
end Go.PI.G
namespace Go.PI.G
open Go Go.PI Go.Proofs
open Go.Code (pl pr)
noncomputable def j4T (a:qS) (b:qS) (k0:Bool->Res):Res:=
 bif (a.1 != b.1) then
  k0 false
 else
  bif sNe a.2.1 b.2.1 then
   k0 false
  else
   j4U a.2.2.1 b.2.2.1 λ(r:Bool)=>
    bif !r then
     k0 false
    else
     j77 a.2.2.2.1 b.2.2.2.1 λ(r1:Bool)=>
      bif !r1 then
       k0 false
      else
       j5J a.2.2.2.2 b.2.2.2.2 λ(r2:Bool)=>
        bif !r2 then
         k0 false
        else
         k0 true
noncomputable def jaD:Sig Unit:=⟨[.look y18 true,.look y18 true],[false],λvals ext k=>av vals y18 λa vals=>av vals y18 λb vals=>nl vals<|nl ext<|j4T a b (λ(r0:Bool)=>k [wB r0] [] [])⟩
theorem je8:Z1p Tryz.prog 235 jaD:=j04 (np:=0) follows j00 (Z8K jax (Z8K jew (Z8K jev Z94))) [] oN false Tryz.func235 λ_ _ k _ h=>aV h λ_ _ _ _ _ h=>aV h λ_ _ _ _ _ h=>nL h λ_ h=>nL h λ_ h=>by subst_vars;exact .trans (by delta j4T jaE jbc jbb;refine gz j4U λ_ e=> ?_;rewrite [<-e];refine gz j77 λ_ e=> ?_;rewrite [<-e];refine gz j5J λ_ e=> ?_;rewrite [<-e];kernel_rfl) h
end Go.PI.G
namespace Go.PI.G
open Go Go.PI Go.Proofs
open Go.Code (pl pr)
noncomputable def j6h (a:qS×qL×qL) (b:qS×qL×qL) (k0:Bool->Res):Res:=
 j4T a.1 b.1 λ(r:Bool)=>
  bif !r then
   k0 false
  else
   j1a a.2.1 b.2.1 λ(r1:Bool)=>
    bif !r1 then
     k0 false
    else
     j1a a.2.2 b.2.2 λ(r2:Bool)=>
      bif !r2 then
       k0 false
      else
       k0 true
noncomputable def jel:Sig Unit:=⟨[.look y20 true,.look y20 true],[false],λvals ext k=>av vals y20 λa vals=>av vals y20 λb vals=>nl vals<|nl ext<|j6h a b (λ(r0:Bool)=>k [wB r0] [] [])⟩
theorem jaw:Z1p Tryz.prog 174 jel:=j04 (np:=0) follows j00 (Z8K j91 (Z8K je8 Z94)) [] oN false Tryz.func174 λ_ _ k _ h=>aV h λ_ _ _ _ _ h=>aV h λ_ _ _ _ _ h=>nL h λ_ h=>nL h λ_ h=>by subst_vars;exact .trans (by delta j6h jaD j6D;refine gz j4T λ_ e=> ?_;rewrite [<-e];refine gz j1a λ_ e=> ?_;rewrite [<-e];kernel_rfl) h
end Go.PI.G
namespace Go.PI.G
open Go Go.PI Go.Proofs
open Go.Code (pl pr)
noncomputable def j2r (a:List (qS×qL×qL)) (b:List (qS×qL×qL)) (i:Int) (rec:Int->Res) (k0:Unit->Res) (k1:Unit->Res):Res:=
 bif decide (i<(nI (List.length a))) then
  bif inb i (List.length a) then
   bif inb i (List.length b) then
    j6h (nth ((0,eS,[],[],0,eS,[],[],eS,eS),[],[]) a i) (nth ((0,eS,[],[],0,eS,[],[],eS,eS),[],[]) b i) λ(r:Bool)=>
     bif !r then
      k1 ()
     else
      rec (Z8o (i+1))
   else none
  else none
 else
  k0 ()
noncomputable def j8F (a:List (qS×qL×qL)) (b:List (qS×qL×qL)):Int->(Int->Res)->((Unit->Res)×(Unit->Res))->Res:=λv rec q=>j2r a b v (λi=>rec (i)) q.1 q.2
noncomputable def j76 (a:List (qS×qL×qL)) (b:List (qS×qL×qL)) (n:Nat) (i:Int) (k0:Unit->Res) (k1:Unit->Res):Res:=Z14 (j8F a b) n (i) (k0,k1)
noncomputable def j9k:Z1q Unit:=λσ k=>rdN σ 27<|rd1 σ 0 y21 .S λa=>rd1 σ 1 y21 .S λb=>rdI σ 5 λi=>j76 a b Z12 i (λ(_:Unit)=>k (.exit 0) (mkS 27 27 [] [])) (λ(_:Unit)=>k .ret (mkS 27 27 [(4,vB false)] []))
theorem jc5 {W0:Base} {M:Nat->Prop} (hnp:W0.np<=0):Z22 Tryz.prog W0 M (cAt 58 (bo Tryz.f71)) j9k:=j0b follows j00 (Z8K jaw Z94) hnp [] oN [0,1,5] [] ([],[]) [(0,[],[])] ([4],[]) λσ k _ h=>rN h λhn h=>rV h λa h0 h=>rV h λb h1 h=>rV h λi h5 h=>⟨_,Z9m (m:=27) hn (sC h0 (sC h1 (sC h5 sN))) bN,.trans (Z88 (λv:Int=>(mkS 27 27 [(0,v1 y21 a .S),(1,v1 y21 b .S),(5,vI v)] [])) (j8F a b) (λ(k:Z6O Unit)=>(((λ(_:Unit)=>k (.exit 0) (mkS 27 27 [] [])),(λ(_:Unit)=>k .ret (mkS 27 27 [(4,vB false)] []))):(Unit->Res)×(Unit->Res))) (λv rec k=>by kernel_rfl) Z12 (i) k) h⟩
noncomputable def j75 (a:List (qS×qL×qL)) (b:List (qS×qL×qL)) (k0:Bool->Res):Res:=
 bif ((nI (List.length a)) != (nI (List.length b))) then
  k0 false
 else
  j76 a b Z12 0
   (λ(_:Unit)=>
    k0 true)
   (λ(_:Unit)=>
    k0 false)
noncomputable def jdC:Sig Unit:=⟨[.look y21 false,.look y21 false],[false],λvals ext k=>av vals y21 λa vals=>av vals y21 λb vals=>nl vals<|nl ext<|j75 a b (λ(r0:Bool)=>k [wB r0] [] [])⟩
theorem jdj:Z1p Tryz.prog 71 jdC:=j04 (np:=0) follows j00 (Z8K jaw Z94) [j9k] (oI 58 0 (jc5) oN) false Tryz.func71 λ_ _ k _ h=>aV h λ_ _ _ _ _ h=>aV h λ_ _ _ _ _ h=>nL h λ_ h=>nL h λ_ h=>by subst_vars;exact .trans (by kernel_rfl) h
theorem j0J:Fns Tryz.prog [(90,j5p),(175,j2d),(176,j7j),(177,j7h)]:=(Z8K jaR (Z8K j0e (Z8K jcy (Z8K jcw Z94))))
noncomputable def j2s (a:List (qS×qL×qL)) (k_:Int) (i:Int) (k0:(List (qS×qL×qL))->Res):Res:=
 j09 k_ λ(r:qB)=>
  bif inb i (List.length a) then
   k0 (upd a i (((nth ((0,eS,[],[],0,eS,[],[],eS,eS),[],[]) a i).1.1,r,(nth ((0,eS,[],[],0,eS,[],[],eS,eS),[],[]) a i).1.2.2),(nth ((0,eS,[],[],0,eS,[],[],eS,eS),[],[]) a i).2))
  else none
noncomputable def j0t:Z1q Unit:=λσ k=>rdN σ 118<|rd1 σ 0 y21 .O λa=>rdI σ 1 λk_=>rdI σ 5 λi=>j2s a k_ i (λ(a1:List (qS×qL×qL))=>k .normal (mkS 118 118 [(0,v1 y21 a1 .O),(1,vI k_),(5,vI i)] []))
theorem jb4 {W0:Base} {M:Nat->Prop} (hnp:W0.np<=1):Z22 Tryz.prog W0 M (cAt 3366 (bo Tryz.f74)) j0t:=j0P follows j00 j0J hnp [] oN ([0,1,5],[]) [] ([],[]) λσ k _ h=>rN h λhn h=>rV h λa h0 h=>rV h λk_ h1 h=>rV h λi h5 h=>⟨_,Z9m (m:=118) hn (sC h0 (sC h1 (sC h5 sN))) bN,.trans (by kernel_rfl) h⟩
noncomputable def j2t (a:List (qS×qL×qL)) (k_:Int) (i:Int) (k0:(List (qS×qL×qL))->Int->Res):Res:=
 bif inb i (List.length a) then
  j3p (nth ((0,eS,[],[],0,eS,[],[],eS,eS),[],[]) a i).1.2.2.2.1 k_ λ(r:Int) (a1:List qV)=>
   k0 (upd a i (((nth ((0,eS,[],[],0,eS,[],[],eS,eS),[],[]) a i).1.1,(nth ((0,eS,[],[],0,eS,[],[],eS,eS),[],[]) a i).1.2.1,(nth ((0,eS,[],[],0,eS,[],[],eS,eS),[],[]) a i).1.2.2.1,a1,(nth ((0,eS,[],[],0,eS,[],[],eS,eS),[],[]) a i).1.2.2.2.2),(nth ((0,eS,[],[],0,eS,[],[],eS,eS),[],[]) a i).2)) r
 else none
noncomputable def j0y:Z1q Unit:=λσ k=>rdN σ 118<|rd1 σ 0 y21 .O λa=>rdI σ 1 λk_=>rdI σ 5 λi=>j2t a k_ i (λ(a2:List (qS×qL×qL)) (k_1:Int)=>k .normal (mkS 118 118 [(0,v1 y21 a2 .O),(1,vI k_1),(5,vI i)] []))
theorem jb5 {W0:Base} {M:Nat->Prop} (hnp:W0.np<=1):Z22 Tryz.prog W0 M (cAt 26942 (bo Tryz.f74)) j0y:=j0P follows j00 j0J hnp [j0t] oN ([0,1,5],[]) [] ([],[]) λσ k _ h=>rN h λhn h=>rV h λa h0 h=>rV h λk_ h1 h=>rV h λi h5 h=>⟨_,Z9m (m:=118) hn (sC h0 (sC h1 (sC h5 sN))) bN,.trans (by kernel_rfl) h⟩
noncomputable def j2u (a:List (qS×qL×qL)) (k_:Int) (i:Int) (k0:(List (qS×qL×qL))->Res):Res:=
 j09 k_ λ(r:qB)=>
  bif inb i (List.length a) then
   k0 (upd a i (((nth ((0,eS,[],[],0,eS,[],[],eS,eS),[],[]) a i).1.1,(nth ((0,eS,[],[],0,eS,[],[],eS,eS),[],[]) a i).1.2.1,(nth ((0,eS,[],[],0,eS,[],[],eS,eS),[],[]) a i).1.2.2.1,(nth ((0,eS,[],[],0,eS,[],[],eS,eS),[],[]) a i).1.2.2.2.1,(nth ((0,eS,[],[],0,eS,[],[],eS,eS),[],[]) a i).1.2.2.2.2.1,r,(nth ((0,eS,[],[],0,eS,[],[],eS,eS),[],[]) a i).1.2.2.2.2.2.2),(nth ((0,eS,[],[],0,eS,[],[],eS,eS),[],[]) a i).2))
  else none
noncomputable def j0L:Z1q Unit:=λσ k=>rdN σ 118<|rd1 σ 0 y21 .O λa=>rdI σ 1 λk_=>rdI σ 5 λi=>j2u a k_ i (λ(a1:List (qS×qL×qL))=>k .normal (mkS 118 118 [(0,v1 y21 a1 .O),(1,vI k_),(5,vI i)] []))
theorem jb6 {W0:Base} {M:Nat->Prop} (hnp:W0.np<=1):Z22 Tryz.prog W0 M (cAt 215550 (bo Tryz.f74)) j0L:=j0P follows j00 j0J hnp [j0t,j0y] oN ([0,1,5],[]) [] ([],[]) λσ k _ h=>rN h λhn h=>rV h λa h0 h=>rV h λk_ h1 h=>rV h λi h5 h=>⟨_,Z9m (m:=118) hn (sC h0 (sC h1 (sC h5 sN))) bN,.trans (by kernel_rfl) h⟩
noncomputable def j2v (a:List (qS×qL×qL)) (k_:Int) (i:Int) (k0:(List (qS×qL×qL))->Int->Res):Res:=
 bif inb i (List.length a) then
  j16 (nth ((0,eS,[],[],0,eS,[],[],eS,eS),[],[]) a i).1.2.2.2.2.2.2.2.1 k_ λ(r:Int) (a1:qL)=>
   k0 (upd a i (((nth ((0,eS,[],[],0,eS,[],[],eS,eS),[],[]) a i).1.1,(nth ((0,eS,[],[],0,eS,[],[],eS,eS),[],[]) a i).1.2.1,(nth ((0,eS,[],[],0,eS,[],[],eS,eS),[],[]) a i).1.2.2.1,(nth ((0,eS,[],[],0,eS,[],[],eS,eS),[],[]) a i).1.2.2.2.1,(nth ((0,eS,[],[],0,eS,[],[],eS,eS),[],[]) a i).1.2.2.2.2.1,(nth ((0,eS,[],[],0,eS,[],[],eS,eS),[],[]) a i).1.2.2.2.2.2.1,(nth ((0,eS,[],[],0,eS,[],[],eS,eS),[],[]) a i).1.2.2.2.2.2.2.1,a1,(nth ((0,eS,[],[],0,eS,[],[],eS,eS),[],[]) a i).1.2.2.2.2.2.2.2.2),(nth ((0,eS,[],[],0,eS,[],[],eS,eS),[],[]) a i).2)) r
 else none
noncomputable def j1h:Z1q Unit:=λσ k=>rdN σ 118<|rd1 σ 0 y21 .O λa=>rdI σ 1 λk_=>rdI σ 5 λi=>j2v a k_ i (λ(a2:List (qS×qL×qL)) (k_1:Int)=>k .normal (mkS 118 118 [(0,v1 y21 a2 .O),(1,vI k_1),(5,vI i)] []))
theorem jb7 {W0:Base} {M:Nat->Prop} (hnp:W0.np<=1):Z22 Tryz.prog W0 M (cAt 1724414 (bo Tryz.f74)) j1h:=j0P follows j00 j0J hnp [j0t,j0y,j0L] oN ([0,1,5],[]) [] ([],[]) λσ k _ h=>rN h λhn h=>rV h λa h0 h=>rV h λk_ h1 h=>rV h λi h5 h=>⟨_,Z9m (m:=118) hn (sC h0 (sC h1 (sC h5 sN))) bN,.trans (by kernel_rfl) h⟩
noncomputable def j2w (a:List (qS×qL×qL)) (k_:Int) (i:Int) (k0:(List (qS×qL×qL))->Res):Res:=
 j09 k_ λ(r:qB)=>
  bif inb i (List.length a) then
   k0 (upd a i (((nth ((0,eS,[],[],0,eS,[],[],eS,eS),[],[]) a i).1.1,(nth ((0,eS,[],[],0,eS,[],[],eS,eS),[],[]) a i).1.2.1,(nth ((0,eS,[],[],0,eS,[],[],eS,eS),[],[]) a i).1.2.2.1,(nth ((0,eS,[],[],0,eS,[],[],eS,eS),[],[]) a i).1.2.2.2.1,(nth ((0,eS,[],[],0,eS,[],[],eS,eS),[],[]) a i).1.2.2.2.2.1,(nth ((0,eS,[],[],0,eS,[],[],eS,eS),[],[]) a i).1.2.2.2.2.2.1,(nth ((0,eS,[],[],0,eS,[],[],eS,eS),[],[]) a i).1.2.2.2.2.2.2.1,(nth ((0,eS,[],[],0,eS,[],[],eS,eS),[],[]) a i).1.2.2.2.2.2.2.2.1,r,(nth ((0,eS,[],[],0,eS,[],[],eS,eS),[],[]) a i).1.2.2.2.2.2.2.2.2.2),(nth ((0,eS,[],[],0,eS,[],[],eS,eS),[],[]) a i).2))
  else none
noncomputable def j29:Z1q Unit:=λσ k=>rdN σ 118<|rd1 σ 0 y21 .O λa=>rdI σ 1 λk_=>rdI σ 5 λi=>j2w a k_ i (λ(a1:List (qS×qL×qL))=>k .normal (mkS 118 118 [(0,v1 y21 a1 .O),(1,vI k_),(5,vI i)] []))
theorem jb8 {W0:Base} {M:Nat->Prop} (hnp:W0.np<=1):Z22 Tryz.prog W0 M (cAt 3448830 (bo Tryz.f74)) j29:=j0P follows j00 j0J hnp [j0t,j0y,j0L,j1h] oN ([0,1,5],[]) [] ([],[]) λσ k _ h=>rN h λhn h=>rV h λa h0 h=>rV h λk_ h1 h=>rV h λi h5 h=>⟨_,Z9m (m:=118) hn (sC h0 (sC h1 (sC h5 sN))) bN,.trans (by kernel_rfl) h⟩
noncomputable def j2x (a:List (qS×qL×qL)) (k_:Int) (i:Int) (k0:(List (qS×qL×qL))->Res):Res:=
 j09 k_ λ(r:qB)=>
  bif inb i (List.length a) then
   k0 (upd a i (((nth ((0,eS,[],[],0,eS,[],[],eS,eS),[],[]) a i).1.1,(nth ((0,eS,[],[],0,eS,[],[],eS,eS),[],[]) a i).1.2.1,(nth ((0,eS,[],[],0,eS,[],[],eS,eS),[],[]) a i).1.2.2.1,(nth ((0,eS,[],[],0,eS,[],[],eS,eS),[],[]) a i).1.2.2.2.1,(nth ((0,eS,[],[],0,eS,[],[],eS,eS),[],[]) a i).1.2.2.2.2.1,(nth ((0,eS,[],[],0,eS,[],[],eS,eS),[],[]) a i).1.2.2.2.2.2.1,(nth ((0,eS,[],[],0,eS,[],[],eS,eS),[],[]) a i).1.2.2.2.2.2.2.1,(nth ((0,eS,[],[],0,eS,[],[],eS,eS),[],[]) a i).1.2.2.2.2.2.2.2.1,(nth ((0,eS,[],[],0,eS,[],[],eS,eS),[],[]) a i).1.2.2.2.2.2.2.2.2.1,r),(nth ((0,eS,[],[],0,eS,[],[],eS,eS),[],[]) a i).2))
  else none
noncomputable def j3V:Z1q Unit:=λσ k=>rdN σ 118<|rd1 σ 0 y21 .O λa=>rdI σ 1 λk_=>rdI σ 5 λi=>j2x a k_ i (λ(a1:List (qS×qL×qL))=>k .normal (mkS 118 118 [(0,v1 y21 a1 .O),(1,vI k_),(5,vI i)] []))
theorem jb9 {W0:Base} {M:Nat->Prop} (hnp:W0.np<=1):Z22 Tryz.prog W0 M (cAt 13795326 (bo Tryz.f74)) j3V:=j0P follows j00 j0J hnp [j0t,j0y,j0L,j1h,j29] oN ([0,1,5],[]) [] ([],[]) λσ k _ h=>rN h λhn h=>rV h λa h0 h=>rV h λk_ h1 h=>rV h λi h5 h=>⟨_,Z9m (m:=118) hn (sC h0 (sC h1 (sC h5 sN))) bN,.trans (by kernel_rfl) h⟩
noncomputable def j0Y (a:List (qS×qL×qL)) (k_:Int) (i:Int) (rec:(List (qS×qL×qL))->Int->Int->Res) (k0:(List (qS×qL×qL))->Int->Res):Res:=
 bif decide (i<(nI (List.length a))) then
  bif inb i (List.length a) then
   j2s (upd a i ((k_,(nth ((0,eS,[],[],0,eS,[],[],eS,eS),[],[]) a i).1.2),(nth ((0,eS,[],[],0,eS,[],[],eS,eS),[],[]) a i).2)) (Z8o (k_+1)) i λ(a1:List (qS×qL×qL))=>
    bif inb i (List.length a1) then
     j3p (nth ((0,eS,[],[],0,eS,[],[],eS,eS),[],[]) a1 i).1.2.2.1 (Z8o ((Z8o (k_+1))+1)) λ(r:Int) (a2:List qV)=>
      j2t (upd a1 i (((nth ((0,eS,[],[],0,eS,[],[],eS,eS),[],[]) a1 i).1.1,(nth ((0,eS,[],[],0,eS,[],[],eS,eS),[],[]) a1 i).1.2.1,a2,(nth ((0,eS,[],[],0,eS,[],[],eS,eS),[],[]) a1 i).1.2.2.2),(nth ((0,eS,[],[],0,eS,[],[],eS,eS),[],[]) a1 i).2)) r i λ(a3:List (qS×qL×qL)) (k_1:Int)=>
       bif inb i (List.length a3) then
        j2u (upd a3 i (((nth ((0,eS,[],[],0,eS,[],[],eS,eS),[],[]) a3 i).1.1,(nth ((0,eS,[],[],0,eS,[],[],eS,eS),[],[]) a3 i).1.2.1,(nth ((0,eS,[],[],0,eS,[],[],eS,eS),[],[]) a3 i).1.2.2.1,(nth ((0,eS,[],[],0,eS,[],[],eS,eS),[],[]) a3 i).1.2.2.2.1,k_1,(nth ((0,eS,[],[],0,eS,[],[],eS,eS),[],[]) a3 i).1.2.2.2.2.2),(nth ((0,eS,[],[],0,eS,[],[],eS,eS),[],[]) a3 i).2)) (Z8o (k_1+1)) i λ(a4:List (qS×qL×qL))=>
         bif inb i (List.length a4) then
          j4O (nth ((0,eS,[],[],0,eS,[],[],eS,eS),[],[]) a4 i).1.2.2.2.2.2.2.1 (Z8o ((Z8o (k_1+1))+1)) λ(r1:Int) (a5:List qC)=>
           j2v (upd a4 i (((nth ((0,eS,[],[],0,eS,[],[],eS,eS),[],[]) a4 i).1.1,(nth ((0,eS,[],[],0,eS,[],[],eS,eS),[],[]) a4 i).1.2.1,(nth ((0,eS,[],[],0,eS,[],[],eS,eS),[],[]) a4 i).1.2.2.1,(nth ((0,eS,[],[],0,eS,[],[],eS,eS),[],[]) a4 i).1.2.2.2.1,(nth ((0,eS,[],[],0,eS,[],[],eS,eS),[],[]) a4 i).1.2.2.2.2.1,(nth ((0,eS,[],[],0,eS,[],[],eS,eS),[],[]) a4 i).1.2.2.2.2.2.1,a5,(nth ((0,eS,[],[],0,eS,[],[],eS,eS),[],[]) a4 i).1.2.2.2.2.2.2.2),(nth ((0,eS,[],[],0,eS,[],[],eS,eS),[],[]) a4 i).2)) r1 i λ(a6:List (qS×qL×qL)) (k_2:Int)=>
            j2w a6 k_2 i λ(a7:List (qS×qL×qL))=>
             j2x a7 (Z8o (k_2+1)) i λ(a8:List (qS×qL×qL))=>
              bif inb i (List.length a8) then
               j16 (nth ((0,eS,[],[],0,eS,[],[],eS,eS),[],[]) a8 i).2.1 (Z8o ((Z8o (k_2+1))+1)) λ(r2:Int) (a9:qL)=>
                bif inb i (List.length (upd a8 i ((nth ((0,eS,[],[],0,eS,[],[],eS,eS),[],[]) a8 i).1,a9,(nth ((0,eS,[],[],0,eS,[],[],eS,eS),[],[]) a8 i).2.2))) then
                 j16 (nth ((0,eS,[],[],0,eS,[],[],eS,eS),[],[]) (upd a8 i ((nth ((0,eS,[],[],0,eS,[],[],eS,eS),[],[]) a8 i).1,a9,(nth ((0,eS,[],[],0,eS,[],[],eS,eS),[],[]) a8 i).2.2)) i).2.2 r2 λ(r3:Int) (a10:qL)=>
                  rec (upd (upd a8 i ((nth ((0,eS,[],[],0,eS,[],[],eS,eS),[],[]) a8 i).1,a9,(nth ((0,eS,[],[],0,eS,[],[],eS,eS),[],[]) a8 i).2.2)) i ((nth ((0,eS,[],[],0,eS,[],[],eS,eS),[],[]) (upd a8 i ((nth ((0,eS,[],[],0,eS,[],[],eS,eS),[],[]) a8 i).1,a9,(nth ((0,eS,[],[],0,eS,[],[],eS,eS),[],[]) a8 i).2.2)) i).1,(nth ((0,eS,[],[],0,eS,[],[],eS,eS),[],[]) (upd a8 i ((nth ((0,eS,[],[],0,eS,[],[],eS,eS),[],[]) a8 i).1,a9,(nth ((0,eS,[],[],0,eS,[],[],eS,eS),[],[]) a8 i).2.2)) i).2.1,a10)) r3 (Z8o (i+1))
                else none
              else none
         else none
       else none
    else none
  else none
 else
  k0 a k_
noncomputable def j3g:((List (qS×qL×qL))×Int×Int)->((List (qS×qL×qL))×Int×Int->Res)->(((List (qS×qL×qL))->Int->Res))->Res:=λv rec q=>j0Y v.1 v.2.1 v.2.2 (λa k_ i=>rec (a,k_,i)) q
noncomputable def j61 (n:Nat) (a:List (qS×qL×qL)) (k_:Int) (i:Int) (k0:(List (qS×qL×qL))->Int->Res):Res:=Z14 (j3g) n (a,k_,i) (k0)
noncomputable def j8o:Z1q Unit:=λσ k=>rdN σ 118<|rd1 σ 0 y21 .O λa=>rdI σ 1 λk_=>rdI σ 5 λi=>j61 Z12 a k_ i (λ(a11:List (qS×qL×qL)) (k_3:Int)=>k (.exit 0) (mkS 118 118 [(0,v1 y21 a11 .O),(1,vI k_3)] []))
theorem jb3 {W0:Base} {M:Nat->Prop} (hnp:W0.np<=1):Z22 Tryz.prog W0 M (cAt 26 (bo Tryz.f74)) j8o:=j0b follows j00 j0J hnp [j0t,j0y,j0L,j1h,j29,j3V] (oI 102 0 (jb4) (oI 830 1 (jb5) (oI 6654 2 (jb6) (oI 53246 3 (jb7) (oI 106494 4 (jb8) (oI 425982 5 (jb9) oN)))))) [0,1,5] [] ([],[]) [(0,[0,1],[])] ([],[]) λσ k _ h=>rN h λhn h=>rV h λa h0 h=>rV h λk_ h1 h=>rV h λi h5 h=>⟨_,Z9m (m:=118) hn (sC h0 (sC h1 (sC h5 sN))) bN,.trans (Z88 (λv:(List (qS×qL×qL))×Int×Int=>(mkS 118 118 [(0,v1 y21 v.1 .O),(1,vI v.2.1),(5,vI v.2.2)] [])) (j3g) (λ(k:Z6O Unit)=>(((λ(a11:List (qS×qL×qL)) (k_3:Int)=>k (.exit 0) (mkS 118 118 [(0,v1 y21 a11 .O),(1,vI k_3)] []))):((List (qS×qL×qL))->Int->Res))) (λv rec k=>by delta j3g j0Y j0t j7j j0y j0L j7h j1h j29 j3V j5p;refine gz j2s λ_ e=> ?_;rewrite [<-e];refine gz j3p λ_ e=> ?_;rewrite [<-e];refine gz j2t λ_ e=> ?_;rewrite [<-e];refine gz j2u λ_ e=> ?_;rewrite [<-e];refine gz j4O λ_ e=> ?_;rewrite [<-e];refine gz j2v λ_ e=> ?_;rewrite [<-e];refine gz j2w λ_ e=> ?_;rewrite [<-e];refine gz j2x λ_ e=> ?_;rewrite [<-e];refine gz j16 λ_ e=> ?_;rewrite [<-e];kernel_rfl) Z12 (a,k_,i) k) h⟩
noncomputable def j5M (a:List (qS×qL×qL)) (k_:Int) (k0:Int->(List (qS×qL×qL))->Res):Res:=
 j61 Z12 a k_ 0 λ(a1:List (qS×qL×qL)) (k_1:Int)=>
  k0 k_1 a1
noncomputable def jcl:Sig Unit:=⟨[.inout y21 false,.borrow tI false],[false],λvals ext k=>ao vals y21 [.O] λa vals=>av vals tI λk_ vals=>nl vals<|nl ext<|j5M a k_ (λ(r0:Int) (i0:List (qS×qL×qL))=>k [wI r0] [w1 y21 i0 .O] [])⟩
theorem jbX:Z1p Tryz.prog 74 jcl:=j04 (np:=1) follows j00 j0J [j0t,j0y,j0L,j1h,j29,j3V,j8o] (oI 26 6 (jb3) oN) false Tryz.func74 λ_ _ k _ h=>aO h λ_ _ _ _ h=>aV h λ_ _ _ _ _ h=>nL h λ_ h=>nL h λ_ h=>by subst_vars;exact .trans (by kernel_rfl) h
theorem j8X:Fns Tryz.prog [(175,j2d),(178,j7g),(179,j7f),(180,j5o)]:=(Z8K j0e (Z8K jcv (Z8K jcu (Z8K jaQ Z94))))
noncomputable def j0X (a:List (qS×qL×qL)) (k_:Int) (i:Int) (rec:Int->Int->Res) (k0:Int->Res) (k1:Unit->Res):Res:=
 bif decide (i<(nI (List.length a))) then
  bif inb i (List.length a) then
   bif ((nth ((0,eS,[],[],0,eS,[],[],eS,eS),[],[]) a i).1.1 != k_) then
    k1 ()
   else
    bif inb i (List.length a) then
     j09 (Z8o (k_+1)) λ(r:qB)=>
      bif sNe (nth ((0,eS,[],[],0,eS,[],[],eS,eS),[],[]) a i).1.2.1 r then
       k1 ()
      else
       bif inb i (List.length a) then
        j3o (nth ((0,eS,[],[],0,eS,[],[],eS,eS),[],[]) a i).1.2.2.1 (Z8o ((Z8o (k_+1))+1)) λ(r1:Int)=>
         bif decide (r1<0) then
          k1 ()
         else
          bif inb i (List.length a) then
           j3o (nth ((0,eS,[],[],0,eS,[],[],eS,eS),[],[]) a i).1.2.2.2.1 r1 λ(r2:Int)=>
            bif decide (r2<0) then
             k1 ()
            else
             bif inb i (List.length a) then
              bif ((nth ((0,eS,[],[],0,eS,[],[],eS,eS),[],[]) a i).1.2.2.2.2.1 != r2) then
               k1 ()
              else
               bif inb i (List.length a) then
                j09 (Z8o (r2+1)) λ(r3:qB)=>
                 bif sNe (nth ((0,eS,[],[],0,eS,[],[],eS,eS),[],[]) a i).1.2.2.2.2.2.1 r3 then
                  k1 ()
                 else
                  bif inb i (List.length a) then
                   j4N (nth ((0,eS,[],[],0,eS,[],[],eS,eS),[],[]) a i).1.2.2.2.2.2.2.1 (Z8o ((Z8o (r2+1))+1)) λ(r4:Int)=>
                    bif decide (r4<0) then
                     k1 ()
                    else
                     bif inb i (List.length a) then
                      j15 (nth ((0,eS,[],[],0,eS,[],[],eS,eS),[],[]) a i).1.2.2.2.2.2.2.2.1 r4 λ(r5:Int)=>
                       bif decide (r5<0) then
                        k1 ()
                       else
                        bif inb i (List.length a) then
                         j09 r5 λ(r6:qB)=>
                          bif sNe (nth ((0,eS,[],[],0,eS,[],[],eS,eS),[],[]) a i).1.2.2.2.2.2.2.2.2.1 r6 then
                           k1 ()
                          else
                           bif inb i (List.length a) then
                            j09 (Z8o (r5+1)) λ(r7:qB)=>
                             bif sNe (nth ((0,eS,[],[],0,eS,[],[],eS,eS),[],[]) a i).1.2.2.2.2.2.2.2.2.2 r7 then
                              k1 ()
                             else
                              bif inb i (List.length a) then
                               j15 (nth ((0,eS,[],[],0,eS,[],[],eS,eS),[],[]) a i).2.1 (Z8o ((Z8o (r5+1))+1)) λ(r8:Int)=>
                                bif decide (r8<0) then
                                 k1 ()
                                else
                                 bif inb i (List.length a) then
                                  j15 (nth ((0,eS,[],[],0,eS,[],[],eS,eS),[],[]) a i).2.2 r8 λ(r9:Int)=>
                                   bif decide (r9<0) then
                                    k1 ()
                                   else
                                    rec r9 (Z8o (i+1))
                                 else none
                              else none
                           else none
                        else none
                     else none
                  else none
               else none
             else none
          else none
       else none
    else none
  else none
 else
  k0 k_
noncomputable def j3f (a:List (qS×qL×qL)):(Int×Int)->(Int×Int->Res)->((Int->Res)×(Unit->Res))->Res:=λv rec q=>j0X a v.1 v.2 (λk_ i=>rec (k_,i)) q.1 q.2
noncomputable def j5Z (a:List (qS×qL×qL)) (n:Nat) (k_:Int) (i:Int) (k0:Int->Res) (k1:Unit->Res):Res:=Z14 (j3f a) n (k_,i) (k0,k1)
noncomputable def j8m:Z1q Unit:=λσ k=>rdN σ 142<|rd1 σ 0 y21 .S λa=>rdI σ 1 λk_=>rdI σ 5 λi=>j5Z a Z12 k_ i (λ(k_1:Int)=>k (.exit 0) (mkS 142 142 [(1,vI k_1)] [])) (λ(_:Unit)=>k .ret (mkS 142 142 [(4,vI (-1))] []))
theorem jb1 {W0:Base} {M:Nat->Prop} (hnp:W0.np<=0):Z22 Tryz.prog W0 M (cAt 26 (bo Tryz.f75)) j8m:=j0b follows j00 j8X hnp [] oN [0,1,5] [] ([],[]) [(0,[1],[])] ([4],[]) λσ k _ h=>rN h λhn h=>rV h λa h0 h=>rV h λk_ h1 h=>rV h λi h5 h=>⟨_,Z9m (m:=142) hn (sC h0 (sC h1 (sC h5 sN))) bN,.trans (Z88 (λv:Int×Int=>(mkS 142 142 [(0,v1 y21 a .S),(1,vI v.1),(5,vI v.2)] [])) (j3f a) (λ(k:Z6O Unit)=>(((λ(k_1:Int)=>k (.exit 0) (mkS 142 142 [(1,vI k_1)] [])),(λ(_:Unit)=>k .ret (mkS 142 142 [(4,vI (-1))] []))):(Int->Res)×(Unit->Res))) (λv rec k=>by delta j3f j0X j2d j7g j7f j5o;refine gz j09 λ_ e=> ?_;rewrite [<-e];refine gz j3o λ_ e=> ?_;rewrite [<-e];refine gz j4N λ_ e=> ?_;rewrite [<-e];refine gz j15 λ_ e=> ?_;rewrite [<-e];kernel_rfl) Z12 (k_,i) k) h⟩
noncomputable def j5K (a:List (qS×qL×qL)) (k_:Int) (k0:Int->Res):Res:=
 j5Z a Z12 k_ 0
  (λ(k_1:Int)=>
   k0 k_1)
  (λ(_:Unit)=>
   k0 (-1))
noncomputable def jcj:Sig Unit:=⟨[.look y21 false,.look tI false],[false],λvals ext k=>av vals y21 λa vals=>av vals tI λk_ vals=>nl vals<|nl ext<|j5K a k_ (λ(r0:Int)=>k [wI r0] [] [])⟩
theorem jbU:Z1p Tryz.prog 75 jcj:=j04 (np:=0) follows j00 j8X [j8m] (oI 26 0 (jb1) oN) false Tryz.func75 λ_ _ k _ h=>aV h λ_ _ _ _ _ h=>aV h λ_ _ _ _ _ h=>nL h λ_ h=>nL h λ_ h=>by subst_vars;exact .trans (by kernel_rfl) h
end Go.PI.G
namespace Go.PI.G
open Go Go.PI Go.Proofs
open Go.Code (pl pr)
noncomputable def j20 (a:Int×Int×List (qS×qL×qL)) (b:Int×Int×List (qS×qL×qL)) (k0:Bool->Res):Res:=
 bif (a.1 != b.1) then
  k0 false
 else
  bif (a.2.1 != b.2.1) then
   k0 false
  else
   j75 a.2.2 b.2.2 λ(r:Bool)=>
    bif !r then
     k0 false
    else
     k0 true
noncomputable def j5O:Sig Unit:=⟨[.look y23 true,.look y23 true],[false],λvals ext k=>av vals y23 λa vals=>av vals y23 λb vals=>nl vals<|nl ext<|j20 a b (λ(r0:Bool)=>k [wB r0] [] [])⟩
theorem jdh:Z1p Tryz.prog 14 j5O:=j04 (np:=0) follows j00 (Z8K jdj Z94) [] oN false Tryz.func14 λ_ _ k _ h=>aV h λ_ _ _ _ _ h=>aV h λ_ _ _ _ _ h=>nL h λ_ h=>nL h λ_ h=>by subst_vars;exact .trans (by kernel_rfl) h
noncomputable def j4f (a:Int×Int×List (qS×qL×qL)) (k_:Int) (k0:Int->(Int×Int×List (qS×qL×qL))->Res):Res:=
 j5M a.2.2 k_ λ(r:Int) (a1:List (qS×qL×qL))=>
  k0 r (a.1,a.2.1,a1)
noncomputable def j6F:Sig Unit:=⟨[.inout y23 true,.borrow tI false],[false],λvals ext k=>ao vals y23 [.O] λa vals=>av vals tI λk_ vals=>nl vals<|nl ext<|j4f a k_ (λ(r0:Int) (i0:Int×Int×List (qS×qL×qL))=>k [wI r0] [⟨y23,true,i0,[.O]⟩] [])⟩
theorem jbV:Z1p Tryz.prog 17 j6F:=j04 (np:=1) follows j00 (Z8K jbX Z94) [] oN false Tryz.func17 λ_ _ k _ h=>aO h λ_ _ _ _ h=>aV h λ_ _ _ _ _ h=>nL h λ_ h=>nL h λ_ h=>by subst_vars;exact .trans (by kernel_rfl) h
noncomputable def j2P (a:Int×Int×List (qS×qL×qL)) (k_:Int) (k0:Int->Res):Res:=
 j5K a.2.2 k_ λ(r:Int)=>
  bif decide (r<0) then
   k0 (-1)
  else
   k0 r
noncomputable def j6E:Sig Unit:=⟨[.look y23 true,.look tI false],[false],λvals ext k=>av vals y23 λa vals=>av vals tI λk_ vals=>nl vals<|nl ext<|j2P a k_ (λ(r0:Int)=>k [wI r0] [] [])⟩
theorem jbT:Z1p Tryz.prog 18 j6E:=j04 (np:=0) follows j00 (Z8K jbU Z94) [] oN false Tryz.func18 λ_ _ k _ h=>aV h λ_ _ _ _ _ h=>aV h λ_ _ _ _ _ h=>nL h λ_ h=>nL h λ_ h=>by subst_vars;exact .trans (by kernel_rfl) h
end Go.PI.G
namespace Go.PI.G
open Go Go.PI Go.Proofs
open Go.Code (pl pr)
noncomputable def j79 (a:List Int) (left:Int) (k0:Int->Res):Res:=
 bif decide ((Z8o (left-(nI (List.length a))))<0) then
  k0 (-1)
 else
  k0 (Z8o (left-(nI (List.length a))))
noncomputable def jdD:Sig Unit:=⟨[.look y0 false,.look tI false],[false],λvals ext k=>av vals y0 λa vals=>av vals tI λleft vals=>nl vals<|nl ext<|j79 a left (λ(r0:Int)=>k [wI r0] [] [])⟩
theorem jdk:Z1p Tryz.prog 60 jdD:=j04 (np:=0) follows j00 Z94 [] oN false Tryz.func60 λ_ _ k _ h=>aV h λ_ _ _ _ _ h=>aV h λ_ _ _ _ _ h=>nL h λ_ h=>nL h λ_ h=>by subst_vars;exact .trans (by kernel_rfl) h
noncomputable def j2y (a:List Int) (out:List Int) (i:Int) (rec:(List Int)->Int->Res) (k0:(List Int)->Res):Res:=
 bif decide (i<(nI (List.length a))) then
  bif inb i (List.length a) then
   bif inb i (List.length out) then
    rec (upd out i (nth 0 a i)) (Z8o (i+1))
   else none
  else none
 else
  k0 out
noncomputable def j62 (a:List Int):((List Int)×Int)->((List Int)×Int->Res)->(((List Int)->Res))->Res:=λv rec q=>j2y a v.1 v.2 (λout i=>rec (out,i)) q
noncomputable def j9x (a:List Int) (n:Nat) (out:List Int) (i:Int) (k0:(List Int)->Res):Res:=Z14 (j62 a) n (out,i) (k0)
noncomputable def j9l:Z1q Unit:=λσ k=>rdN σ 22<|rd1 σ 0 y0 .S λa=>rd1 σ 3 y0 .O λout=>rdI σ 4 λi=>j9x a Z12 out i (λ(out1:List Int)=>k (.exit 0) (mkS 22 22 [(3,v1 y0 out1 .O)] []))
theorem jc6 {W0:Base} {M:Nat->Prop} (hnp:W0.np<=0):Z22 Tryz.prog W0 M (cAt 58 (bo Tryz.f66)) j9l:=j0b follows j00 Z94 hnp [] oN [0,3,4] [] ([],[]) [(0,[3],[])] ([],[]) λσ k _ h=>rN h λhn h=>rV h λa h0 h=>rV h λout h3 h=>rV h λi h4 h=>⟨_,Z9m (m:=22) hn (sC h0 (sC h3 (sC h4 sN))) bN,.trans (Z88 (λv:(List Int)×Int=>(mkS 22 22 [(0,v1 y0 a .S),(3,v1 y0 v.1 .O),(4,vI v.2)] [])) (j62 a) (λ(k:Z6O Unit)=>(((λ(out1:List Int)=>k (.exit 0) (mkS 22 22 [(3,v1 y0 out1 .O)] []))):((List Int)->Res))) (λv rec k=>by kernel_rfl) Z12 (out,i) k) h⟩
noncomputable def j7a (a:List Int) (k0:(List Int)->Res):Res:=
 bif Z8m (nI (List.length a)) (nI (List.length a)) then
  j9x a Z12 (Z7Y (nI (List.length a)) 0) 0 λ(out:List Int)=>
   k0 out
 else none
noncomputable def jdE:Sig Unit:=⟨[.borrow y0 false],[false],λvals ext k=>av vals y0 λa vals=>nl vals<|nl ext<|j7a a (λ(r0:List Int)=>k [w1 y0 r0 .O] [] [])⟩
theorem jdl:Z1p Tryz.prog 66 jdE:=j04 (np:=0) follows j00 Z94 [j9l] (oI 58 0 (jc6) oN) false Tryz.func66 λ_ _ k _ h=>aV h λ_ _ _ _ _ h=>nL h λ_ h=>nL h λ_ h=>by subst_vars;exact .trans (by kernel_rfl) h
noncomputable def j2q (a:List Int) (b:List Int) (i:Int) (rec:Int->Res) (k0:Unit->Res) (k1:Unit->Res):Res:=
 bif decide (i<(nI (List.length a))) then
  bif inb i (List.length a) then
   bif inb i (List.length b) then
    bif ((nth 0 a i) != (nth 0 b i)) then
     k1 ()
    else
     rec (Z8o (i+1))
   else none
  else none
 else
  k0 ()
noncomputable def j8E (a:List Int) (b:List Int):Int->(Int->Res)->((Unit->Res)×(Unit->Res))->Res:=λv rec q=>j2q a b v (λi=>rec (i)) q.1 q.2
noncomputable def j74 (a:List Int) (b:List Int) (n:Nat) (i:Int) (k0:Unit->Res) (k1:Unit->Res):Res:=Z14 (j8E a b) n (i) (k0,k1)
noncomputable def j9j:Z1q Unit:=λσ k=>rdN σ 26<|rd1 σ 0 y0 .S λa=>rd1 σ 1 y0 .S λb=>rdI σ 5 λi=>j74 a b Z12 i (λ(_:Unit)=>k (.exit 0) (mkS 26 26 [] [])) (λ(_:Unit)=>k .ret (mkS 26 26 [(4,vB false)] []))
theorem jc4 {W0:Base} {M:Nat->Prop} (hnp:W0.np<=0):Z22 Tryz.prog W0 M (cAt 58 (bo Tryz.f72)) j9j:=j0b follows j00 Z94 hnp [] oN [0,1,5] [] ([],[]) [(0,[],[])] ([4],[]) λσ k _ h=>rN h λhn h=>rV h λa h0 h=>rV h λb h1 h=>rV h λi h5 h=>⟨_,Z9m (m:=26) hn (sC h0 (sC h1 (sC h5 sN))) bN,.trans (Z88 (λv:Int=>(mkS 26 26 [(0,v1 y0 a .S),(1,v1 y0 b .S),(5,vI v)] [])) (j8E a b) (λ(k:Z6O Unit)=>(((λ(_:Unit)=>k (.exit 0) (mkS 26 26 [] [])),(λ(_:Unit)=>k .ret (mkS 26 26 [(4,vB false)] []))):(Unit->Res)×(Unit->Res))) (λv rec k=>by kernel_rfl) Z12 (i) k) h⟩
noncomputable def j73 (a:List Int) (b:List Int) (k0:Bool->Res):Res:=
 bif ((nI (List.length a)) != (nI (List.length b))) then
  k0 false
 else
  j74 a b Z12 0
   (λ(_:Unit)=>
    k0 true)
   (λ(_:Unit)=>
    k0 false)
noncomputable def jdB:Sig Unit:=⟨[.look y0 false,.look y0 false],[false],λvals ext k=>av vals y0 λa vals=>av vals y0 λb vals=>nl vals<|nl ext<|j73 a b (λ(r0:Bool)=>k [wB r0] [] [])⟩
theorem jdi:Z1p Tryz.prog 72 jdB:=j04 (np:=0) follows j00 Z94 [j9j] (oI 58 0 (jc4) oN) false Tryz.func72 λ_ _ k _ h=>aV h λ_ _ _ _ _ h=>aV h λ_ _ _ _ _ h=>nL h λ_ h=>nL h λ_ h=>by subst_vars;exact .trans (by kernel_rfl) h
noncomputable def j1J (a:List Int) (k_:Int) (i:Int) (rec:(List Int)->Int->Int->Res) (k0:(List Int)->Int->Res):Res:=
 bif decide (i<(nI (List.length a))) then
  bif inb i (List.length a) then
   rec (upd a i (wu8 k_)) (Z8o (k_+1)) (Z8o (i+1))
  else none
 else
  k0 a k_
noncomputable def j50:((List Int)×Int×Int)->((List Int)×Int×Int->Res)->(((List Int)->Int->Res))->Res:=λv rec q=>j1J v.1 v.2.1 v.2.2 (λa k_ i=>rec (a,k_,i)) q
noncomputable def j60 (n:Nat) (a:List Int) (k_:Int) (i:Int) (k0:(List Int)->Int->Res):Res:=Z14 (j50) n (a,k_,i) (k0)
noncomputable def j8n:Z1q Unit:=λσ k=>rdN σ 20<|rd1 σ 0 y0 .O λa=>rdI σ 1 λk_=>rdI σ 5 λi=>j60 Z12 a k_ i (λ(a1:List Int) (k_1:Int)=>k (.exit 0) (mkS 20 20 [(0,v1 y0 a1 .O),(1,vI k_1)] []))
theorem jb2 {W0:Base} {M:Nat->Prop} (hnp:W0.np<=1):Z22 Tryz.prog W0 M (cAt 26 (bo Tryz.f73)) j8n:=j0b follows j00 Z94 hnp [] oN [0,1,5] [] ([],[]) [(0,[0,1],[])] ([],[]) λσ k _ h=>rN h λhn h=>rV h λa h0 h=>rV h λk_ h1 h=>rV h λi h5 h=>⟨_,Z9m (m:=20) hn (sC h0 (sC h1 (sC h5 sN))) bN,.trans (Z88 (λv:(List Int)×Int×Int=>(mkS 20 20 [(0,v1 y0 v.1 .O),(1,vI v.2.1),(5,vI v.2.2)] [])) (j50) (λ(k:Z6O Unit)=>(((λ(a1:List Int) (k_1:Int)=>k (.exit 0) (mkS 20 20 [(0,v1 y0 a1 .O),(1,vI k_1)] []))):((List Int)->Int->Res))) (λv rec k=>by kernel_rfl) Z12 (a,k_,i) k) h⟩
noncomputable def j5L (a:List Int) (k_:Int) (k0:Int->(List Int)->Res):Res:=
 j60 Z12 a k_ 0 λ(a1:List Int) (k_1:Int)=>
  k0 k_1 a1
noncomputable def jck:Sig Unit:=⟨[.inout y0 false,.borrow tI false],[false],λvals ext k=>ao vals y0 [.O] λa vals=>av vals tI λk_ vals=>nl vals<|nl ext<|j5L a k_ (λ(r0:Int) (i0:List Int)=>k [wI r0] [w1 y0 i0 .O] [])⟩
theorem jbW:Z1p Tryz.prog 73 jck:=j04 (np:=1) follows j00 Z94 [j8n] (oI 26 0 (jb2) oN) false Tryz.func73 λ_ _ k _ h=>aO h λ_ _ _ _ h=>aV h λ_ _ _ _ _ h=>nL h λ_ h=>nL h λ_ h=>by subst_vars;exact .trans (by kernel_rfl) h
end Go.PI.G
namespace Go.PI.G
open Go Go.PI Go.Proofs
open Go.Code (pl pr)
noncomputable def j6i (a:List Int) (left:Int) (k0:Int->Res):Res:=
 j79 a left λ(r:Int)=>
  bif decide (r<0) then
   k0 (-1)
  else
   k0 r
noncomputable def j8w:Sig Unit:=⟨[.look y0 true,.look tI false],[false],λvals ext k=>av vals y0 λa vals=>av vals tI λleft vals=>nl vals<|nl ext<|j6i a left (λ(r0:Int)=>k [wI r0] [] [])⟩
theorem je9:Z1p Tryz.prog 10 j8w:=j04 (np:=0) follows j00 (Z8K jdk Z94) [] oN false Tryz.func10 λ_ _ k _ h=>aV h λ_ _ _ _ _ h=>aV h λ_ _ _ _ _ h=>nL h λ_ h=>nL h λ_ h=>by subst_vars;exact .trans (by kernel_rfl) h
noncomputable def j1U (a:List Int) (k0:(List Int)->Res):Res:=
 j7a a λ(r:List Int)=>
  k0 r
noncomputable def j6o:Sig Unit:=⟨[.borrow y0 true],[true],λvals ext k=>av vals y0 λa vals=>nl vals<|nl ext<|j1U a (λ(r0:List Int)=>k [⟨y0,true,r0,[.O]⟩] [] [])⟩
theorem jea:Z1p Tryz.prog 12 j6o:=j04 (np:=0) follows j00 (Z8K jdl Z94) [] oN false Tryz.func12 λ_ _ k _ h=>aV h λ_ _ _ _ _ h=>nL h λ_ h=>nL h λ_ h=>by subst_vars;exact .trans (by kernel_rfl) h
noncomputable def j6g (a:List Int) (b:List Int) (k0:Bool->Res):Res:=
 j73 a b λ(r:Bool)=>
  bif !r then
   k0 false
  else
   k0 true
noncomputable def j8v:Sig Unit:=⟨[.look y0 true,.look y0 true],[false],λvals ext k=>av vals y0 λa vals=>av vals y0 λb vals=>nl vals<|nl ext<|j6g a b (λ(r0:Bool)=>k [wB r0] [] [])⟩
theorem je7:Z1p Tryz.prog 15 j8v:=j04 (np:=0) follows j00 (Z8K jdi Z94) [] oN false Tryz.func15 λ_ _ k _ h=>aV h λ_ _ _ _ _ h=>aV h λ_ _ _ _ _ h=>nL h λ_ h=>nL h λ_ h=>by subst_vars;exact .trans (by kernel_rfl) h
noncomputable def j4P (a:List Int) (k_:Int) (k0:Int->(List Int)->Res):Res:=
 j5L a k_ λ(r:Int) (a1:List Int)=>
  k0 r a1
noncomputable def j7i:Sig Unit:=⟨[.inout y0 true,.borrow tI false],[false],λvals ext k=>ao vals y0 [.O] λa vals=>av vals tI λk_ vals=>nl vals<|nl ext<|j4P a k_ (λ(r0:Int) (i0:List Int)=>k [wI r0] [⟨y0,true,i0,[.O]⟩] [])⟩
theorem jcx:Z1p Tryz.prog 16 j7i:=j04 (np:=1) follows j00 (Z8K jbW Z94) [] oN false Tryz.func16 λ_ _ k _ h=>aO h λ_ _ _ _ h=>aV h λ_ _ _ _ _ h=>nL h λ_ h=>nL h λ_ h=>by subst_vars;exact .trans (by kernel_rfl) h
end Go.PI.G
namespace Go.PI.G
open Go Go.PI Go.Proofs
open Go.Code (pl pr)
theorem j6c:Fns Tryz.prog [(10,j8w),(11,j7k),(12,j6o),(13,j58),(14,j5O),(15,j8v),(16,j7i),(17,j6F),(18,j6E)]:=(Z8K je9 (Z8K jcz (Z8K jea (Z8K jcq (Z8K jdh (Z8K je7 (Z8K jcx (Z8K jbV (Z8K jbT Z94)))))))))
noncomputable def j0T (w1:Bool) (aP:List Int) (w0:Int×Int×List (qS×qL×qL)) (g0:Int×Int×List (qS×qL×qL)) (k0:Bool->Res):Res:=
 j4f g0 1 λ(r:Int) (a3:Int×Int×List (qS×qL×qL))=>
  j2P a3 1 λ(r1:Int)=>
   bif decide (r1<0) then
    k0 false
   else
    bif (r1 != r) then
     k0 false
    else
     j1U aP λ(r2:List Int)=>
      j0C r2 λ(r3:Int×Int×List (qS×qL×qL)) (r4:Bool)=>
       j20 r3 w0 λ(r5:Bool)=>
        bif !r5 then
         k0 false
        else
         bif !(r4==w1) then
          k0 false
         else
          j2P a3 1 λ(r6:Int)=>
           bif decide (r6<0) then
            k0 false
           else
            bif (r6 != r) then
             k0 false
            else
             k0 true
noncomputable def j3c:Z1q Unit:=λσ k=>rdN σ 96<|rdT σ 1 (pB 1)<|rdT σ 4 (pB 4)<|rdO σ 5 λw1=>rdT σ 7 (pB 7)<|rdB σ 1 y0 [.S] λa aP=>rdB σ 4 y23 [.O] λa1 w0=>rdB σ 7 y23 [.O] λa2 g0=>j0T w1 aP w0 g0 (λ(t2:Bool)=>k .ret (mkS 96 96 [(2,vB t2)] []))
theorem j9a {W0:Base} {M:Nat->Prop} (hnp:W0.np<=0):Z22 Tryz.prog W0 M (cAt 8191 (bo Tryz.f3)) j3c:=j0P follows j00 j6c hnp [] oN ([],[]) [] ([2],[]) λσ k _ h=>rN h λhn h=>rT h λh1 h=>rT h λh4 h=>rV h λw1 h5 h=>rT h λh7 h=>rB h λa aP hb1 h=>rB h λa1 w0 hb4 h=>rB h λa2 g0 hb7 h=>⟨_,Z9m (m:=96) hn (sC h1 (sC h4 (sC h5 (sC h7 sN)))) (bC hb1 (bC hb4 (bC hb7 bN))),.trans (by delta j0T j6F j6E j6o j58 j5O;refine gz j4f λ_ e=> ?_;rewrite [<-e];refine gz j2P λ_ e=> ?_;rewrite [<-e];refine gz j1U λ_ e=> ?_;rewrite [<-e];refine gz j0C λ_ e=> ?_;rewrite [<-e];refine gz j20 λ_ e=> ?_;rewrite [<-e];kernel_rfl) h⟩
noncomputable def j1p (aP:List Int) (k0:Bool->Res):Res:=
 j6i aP 1048576 λ(r:Int)=>
  bif decide (r<0) then
   k0 true
  else
   j1U aP λ(r1:List Int)=>
    j2l r1 λ(r2:Int×Int×List (qS×qL×qL)) (r3:Bool)=>
     j1U aP λ(r4:List Int)=>
      j0C r4 λ(r5:Int×Int×List (qS×qL×qL)) (r6:Bool)=>
       j20 r5 r2 λ(r7:Bool)=>
        bif !r7 then
         k0 false
        else
         bif !(r6==r3) then
          k0 false
         else
          j1U aP λ(r8:List Int)=>
           j6g r4 r8 λ(r9:Bool)=>
            bif !r9 then
             k0 false
            else
             j4P r4 1 λ(r10:Int) (a:List Int)=>
              bif decide (r10<0) then
               k0 false
              else
               j20 r5 r2 λ(r11:Bool)=>
                bif !r11 then
                 k0 false
                else
                 bif !(r6==r3) then
                  k0 false
                 else
                  j0T r3 aP r2 r5 λ(t:Bool)=>
                   k0 t
noncomputable def j0Z:Sig Unit:=⟨[.borrow y0 true],[false],λvals ext k=>av vals y0 λaP vals=>nl vals<|nl ext<|j1p aP (λ(r0:Bool)=>k [wB r0] [] [])⟩
theorem j9I:Z1p Tryz.prog 3 j0Z:=j04 (np:=0) follows j00 j6c [j3c] (oI 8191 0 (j9a) oN) false Tryz.func3 λ_ _ k _ h=>aV h λ_ _ _ _ _ h=>nL h λ_ h=>nL h λ_ h=>by subst_vars;exact .trans (by delta j1p j8w j6o j7k j58 j5O j8v j7i j3c;refine gz j6i λ_ e=> ?_;rewrite [<-e];refine gz j1U λ_ e=> ?_;rewrite [<-e];refine gz j2l λ_ e=> ?_;rewrite [<-e];refine gz j0C λ_ e=> ?_;rewrite [<-e];refine gz j20 λ_ e=> ?_;rewrite [<-e];refine gz j6g λ_ e=> ?_;rewrite [<-e];refine gz j4P λ_ e=> ?_;rewrite [<-e];refine gz j0T λ_ e=> ?_;rewrite [<-e];kernel_rfl) h
end Go.PI.G
namespace Go.PI.G
open Go Go.PI
abbrev V:=Int×Int×ByteArray
theorem jeY (n:Int):wu8 n=n % 256:=by
 unfold wu8 IntKind.wrap
 simp [IntKind.bits,IntKind.signed]
theorem j0F {n:Int} (h:0<=n/\n<256):wu8 n=n:=by rw [jeY];omega
theorem j0x (s:ByteArray):(Z1e s).length=s.size:=by unfold Z1e;simp
def isB (l:List Int):Prop:=∀ x∈l,0<=x/\x<256
theorem j9V (s:ByteArray):isB (Z1e s):=by
 intro x hx
 unfold Z1e at hx
 obtain ⟨b,_,rfl⟩:=List.mem_map.1 hx
 have:=UInt8.toNat_lt b
 omega
theorem j7b (s:ByteArray):Z34 (Z1e s)=s:=by
 unfold Z34 Z1e
 rw [List.map_map]
 have:(λb:UInt8=>b)=(λn:Int=>UInt8.ofNat n.toNat) ∘ λb:UInt8=>(b.toNat:Int):=by
  funext b;simp
 rw [<-this]
 simp
theorem j5d {l:List Int} (h:isB l):Z1e (Z34 l)=l:=by
 unfold Z34 Z1e
 simp only [List.map_map]
 have:l.map ((λb:UInt8=>(b.toNat:Int)) ∘ λn:Int=>UInt8.ofNat n.toNat)=l.map id:=by
  refine List.map_congr_left λx hx=> ?_
  have:=h x hx
  simp only [Function.comp,id]
  rw [UInt8.toNat_ofNat']
  omega
 rw [this,List.map_id]
theorem j2Q (a b:ByteArray):sEq a b=true↔a=b:=by
 unfold sEq
 rw [beq_iff_eq]
 constructor
 ·intro h
  rw [ByteArray.ext_iff]
  have h1:a.toList=a.data.toList:=by rw [ByteArray.toList_eq]
  have h2:b.toList=b.data.toList:=by rw [ByteArray.toList_eq]
  rw [h1,h2] at h
  exact Array.toList_inj.1 h
 ·rintro rfl;rfl
theorem jdA (a b:ByteArray):sNe a b=false↔a=b:=by
 unfold sNe
 rw [Bool.not_eq_false']
 exact j2Q a b
theorem jbN {l m:List Int} (hl:isB l) (hm:isB m) (h:Z34 l=Z34 m):l=m:=by
 rw [<-j5d hl,h,j5d hm]
def jeK (n:Int):Bool:=decide (-1099511627775<=n/\n<=1099511627775)
def j0j (v:V):Bool:=
 bif v.1==0 then (v.2.1==0)&&sEq v.2.2 eS
 else bif v.1==1 then ((v.2.1==0)||(v.2.1==1))&&sEq v.2.2 eS
 else bif v.1==2 then jeK v.2.1&&sEq v.2.2 eS
 else bif v.1==3 then (v.2.1==0)&&decide (nI v.2.2.size<=30)
 else false
theorem jg6 (x:Int):decide (0<=x/\x<=1)=((x==0)||(x==1)):=by
 by_cases h:0<=x/\x<=1
 ·rw [decide_eq_true h]
  have:x=0\/x=1:=by omega
  rcases this with rfl | rfl<;>rfl
 ·rw [decide_eq_false h]
  have h1:(x==0)=false:=by simp;omega
  have h2:(x==1)=false:=by simp;omega
  rw [h1,h2];rfl
theorem j0B {v:V} (h:j0j v=true):v=(0,0,eS)\/(∃ n,(n=0\/n=1)/\v=(1,n,eS))\/(∃ n,(-1099511627775<=n/\n<=1099511627775)/\v=(2,n,eS))\/∃ s:ByteArray,s.size<=30/\v=(3,0,s):=by
 obtain ⟨t,n,s⟩:=v
 unfold j0j at h
 simp only at h
 cases h0:t==0
 ·cases h1:t==1
  ·cases h2:t==2
   ·cases h3:t==3
    ·rw [h0,h1,h2,h3] at h;cases h
    ·rw [h0,h1,h2,h3] at h
     simp only [cond_false,cond_true,Bool.and_eq_true,beq_iff_eq,decide_eq_true_eq] at h h3
     obtain ⟨rfl,h⟩:=h
     subst h3
     exact .inr (.inr (.inr ⟨s,by unfold nI at h;omega,rfl⟩))
   ·rw [h0,h1,h2] at h
    simp only [cond_false,cond_true,Bool.and_eq_true,beq_iff_eq] at h h2
    obtain ⟨h,hs⟩:=h
    rw [j2Q] at hs
    subst hs;subst h2
    exact .inr (.inr (.inl ⟨n,of_decide_eq_true h,rfl⟩))
  ·rw [h0,h1] at h
   simp only [cond_false,cond_true,Bool.and_eq_true,Bool.or_eq_true,beq_iff_eq] at h h1
   obtain ⟨h,hs⟩:=h
   rw [j2Q] at hs
   subst hs;subst h1
   exact .inr (.inl ⟨n,h,rfl⟩)
 ·rw [h0] at h
  simp only [cond_true,Bool.and_eq_true,beq_iff_eq] at h h0
  obtain ⟨h,hs⟩:=h
  rw [j2Q] at hs
  subst hs;subst h0;subst h
  exact .inl rfl
theorem jgj {v:V} (h:j0j v=true):v.2.2.size<=30:=by
 rcases j0B h with rfl | ⟨n,_,rfl⟩ | ⟨n,_,rfl⟩ | ⟨s,hs,rfl⟩
 ·show (0:Nat)<=30;omega
 ·show (0:Nat)<=30;omega
 ·show (0:Nat)<=30;omega
 ·exact hs
def be (n:Nat):Nat->List Int
 | 0=>[]
 | s+1=>((n / 256 ^ s % 256:Nat):Int)::be n s
theorem j1l (n:Nat):(s:Nat)->(be n s).length=s
 | 0=>rfl
 | s+1=>by simp [be,j1l n s]
theorem ja0 (n:Nat):(s:Nat)->isB (be n s)
 | 0=>by intro x hx;cases hx
 | s+1=>by
  intro x hx
  rcases List.mem_cons.1 hx with rfl | hx
  ·omega
  ·exact ja0 n s x hx
theorem j0s {l m:List Int} (hl:isB l) (hm:isB m):isB (l++m):=λx hx=>(List.mem_append.1 hx).elim (hl x) (hm x)
theorem j0v {x:Int} {l:List Int} (hx:0<=x/\x<256) (hl:isB l):isB (x::l):=λy hy=>(List.mem_cons.1 hy).elim (λh=>h ▸ hx) (hl y)
theorem j4d:isB []:=λ_ h=>by cases h
noncomputable def wB (v:V):List Int:=
 bif v.1==1 then [1,v.2.1]
 else bif v.1==2 then 2::(bif decide (v.2.1<0) then 1 else 0)::be v.2.1.natAbs 6
 else bif v.1==3 then 3::nI v.2.2.size::Z1e v.2.2
 else [0]
noncomputable def j1i (l:List V):List Int:=nI l.length::l.flatMap wB
theorem jab {v:V} (h:j0j v=true):(wB v).length<=32:=by
 rcases j0B h with rfl | ⟨n,_,rfl⟩ | ⟨n,_,rfl⟩ | ⟨s,hs,rfl⟩
 ·show (1:Nat)<=32;omega
 ·show (2:Nat)<=32;omega
 ·show (2::(bif decide (n<0) then 1 else 0)::be n.natAbs 6).length<=32
  simp [j1l]
 ·show (3::nI s.size::Z1e s).length<=32
  simp [j0x];omega
theorem jgk {v:V} (h:j0j v=true):isB (wB v):=by
 rcases j0B h with rfl | ⟨n,hn,rfl⟩ | ⟨n,_,rfl⟩ | ⟨s,hs,rfl⟩
 ·exact j0v (by omega) j4d
 ·exact j0v (by omega) (j0v (x:=n) (by omega) j4d)
 ·refine j0v (x:=2) (by omega) (j0v ?_ (ja0 _ _))
  cases decide (n<0)<;>simp
 ·exact j0v (x:=3) (by omega) (j0v (x:=nI s.size) (by unfold nI;omega) (j9V s))
theorem jeC:(l:List V)->(∀ v∈l,j0j v=true)->(l.flatMap wB).length<=32 * l.length
 | [],_=>by simp
 | v::l,h=>by
  have h1:=jab (h v (by simp))
  have h2:=jeC l λv hv=>h v (List.mem_cons_of_mem _ hv)
  simp only [List.flatMap_cons,List.length_append,List.length_cons]
  omega
theorem jeB:(l:List V)->(∀ v∈l,j0j v=true)->isB (l.flatMap wB)
 | [],_=>j4d
 | v::l,h=>by
  rw [List.flatMap_cons]
  exact j0s (jgk (h v (by simp))) (jeB l λv hv=>h v (List.mem_cons_of_mem _ hv))
theorem jeS {l:List V} (hl:l.length<=255) (h:∀ v∈l,j0j v=true):isB (j1i l):=j0v (by unfold nI;omega) (jeB l h)
end Go.PI.G
namespace Go.PI.G
open Go Go.PI Go.Proofs
theorem j3U (x lo hi:Int) (k:Bool->Res):j0d x lo hi k=k (decide (lo<=x/\x<=hi)):=by
 unfold j0d
 by_cases h:x>=lo
 ·rw [decide_eq_true h,cond_true]
  congr 1
  exact decide_eq_decide.2 (by omega)
 ·rw [decide_eq_false h,cond_false]
  congr 1
  exact (decide_eq_false (by omega)).symm
theorem jg1 (n:Int) (k:Bool->Res):j9S n k=k (jeK n):=j3U n _ _ k
theorem jan (v:V) (k:Bool->Res):j3O v k=k (j0j v):=by
 unfold j3O j0j
 cases v.1==0
 ·cases v.1==1
  ·cases v.1==2
   ·cases v.1==3
    ·rfl
    ·cases v.2.1==0<;>rfl
   ·rw [cond_false,cond_false,cond_true,jg1]
    cases jeK v.2.1<;>rfl
  ·cases v.2.1==0
   ·cases v.2.1==1<;>rfl
   ·rfl
 ·cases v.2.1==0<;>rfl
theorem jcL (v:V) (k:Bool->Res):j4v v k=k (j0j v):=by
 unfold j4v j0j
 simp only [j3U,jg6]
 cases v.1==0
 ·cases v.1==1
  ·cases v.1==2
   ·cases v.1==3
    ·rfl
    ·cases v.2.1==0<;>rfl
   ·rw [cond_false,cond_false,cond_true,cond_false,cond_false,cond_true]
    show (bif jeK v.2.1 then _ else _)=_
    cases jeK v.2.1<;>rfl
  ·cases v.2.1==0
   ·cases v.2.1==1<;>rfl
   ·rfl
 ·cases v.2.1==0<;>rfl
end Go.PI.G
namespace Go.PI.G
open Go Go.PI
def msr:(τ:Ty)->El τ->Nat
 | .str,s=>ByteArray.size s
 | .slice e,l=>List.length (α:=El e) l+(List.map (msr e) l).sum
 | .pair a b,x=>msr a x.1+msr b x.2
 | .int _,_=>0
 | .bool,_=>0
 | .unit,_=>0
def wgt:(τ:Ty)->El τ->Nat
 | .str,_=>1
 | .slice e,l=>(List.map (wgt e) l).sum
 | .pair a b,x=>wgt a x.1+wgt b x.2
 | .int _,_=>1
 | .bool,_=>1
 | .unit,_=>0
def j2n:(τ:Ty)->El τ->Nat
 | .slice e,l=>(List.map (wgt e) l).sum
 | .pair a b,x=>j2n a x.1+j2n b x.2
 | .str,_=>0
 | .int _,_=>0
 | .bool,_=>0
 | .unit,_=>0
def j3j:Ty->Nat
 | .slice e=>j3j e
 | .pair a b=>j3j a+j3j b
 | .unit=>0
 | _=>1
theorem jdb {α:Type} (f g:α->Nat) (c:Nat) (h:∀ x,f x<=(g x+1) * c):(l:List α)->(l.map f).sum<=(l.length+(l.map g).sum) * c
 | []=>by simp
 | x::l=>by
  have h1:=h x
  have h2:=jdb f g c h l
  simp only [List.map_cons,List.sum_cons,List.length_cons]
  have:(l.length+1+(g x+(l.map g).sum)) * c=(g x+1) * c+(l.length+(l.map g).sum) * c:=by
   rw [<-Nat.add_mul];congr 1;omega
  omega
theorem jdd:(τ:Ty)->(x:El τ)->wgt τ x<=(msr τ x+1) * j3j τ
 | .str,_=>by simp [wgt,j3j]
 | .int _,_=>by simp [wgt,j3j]
 | .bool,_=>by simp [wgt,j3j]
 | .unit,_=>by simp [wgt]
 | .pair a b,x=>by
  have h1:=jdd a x.1
  have h2:=jdd b x.2
  simp only [wgt,msr,j3j,Nat.mul_add]
  have e1:(msr a x.1+1) * j3j a<=(msr a x.1+msr b x.2+1) * j3j a:=Nat.mul_le_mul_right _ (by omega)
  have e2:(msr b x.2+1) * j3j b<=(msr a x.1+msr b x.2+1) * j3j b:=Nat.mul_le_mul_right _ (by omega)
  omega
 | .slice e,l=>by
  have h1:=jdb (wgt e) (msr e) (j3j e) (jdd e) l
  simp only [wgt,msr,j3j]
  have e1:(List.length (α:=El e) l+(List.map (msr e) l).sum) * j3j e<=(List.length (α:=El e) l+(List.map (msr e) l).sum+1) * j3j e:=Nat.mul_le_mul_right _ (by omega)
  exact Nat.le_trans h1 e1
theorem j8d:(τ:Ty)->(x:El τ)->j2n τ x<=wgt τ x
 | .str,_=>Nat.zero_le _
 | .int _,_=>Nat.zero_le _
 | .bool,_=>Nat.zero_le _
 | .unit,_=>Nat.le_refl _
 | .pair a b,x=>Nat.add_le_add (j8d a x.1) (j8d b x.2)
 | .slice e,l=>Nat.le_refl _
theorem j0u {a b:Ty} {x:El (.pair a b)}:msr a x.1<=msr (.pair a b) x:=Nat.le_add_right _ _
theorem j05 {a b:Ty} {x:El (.pair a b)}:msr b x.2<=msr (.pair a b) x:=Nat.le_add_left _ _
noncomputable def dgt (x:Int):ByteArray:=Z34 [wu8 (Z8o (48+x))]
theorem j94 (x:Int):(dgt x).size=1:=rfl
noncomputable def jaf (n:Nat):ByteArray:=if h:n<10 then dgt n else jaf (n / 10)++dgt ((n % 10:Nat):Int)
termination_by n
decreasing_by omega
noncomputable def mT (k:Int):ByteArray:=(⟨#[109]⟩:ByteArray)++jaf k.toNat
noncomputable def mk:(τ:Ty)->El τ->Int->El τ
 | .str,_,k=>mT k
 | .slice e,l,k=>mkL (wgt e) (mk e) l k
 | .pair a b,x,k=>(mk a x.1 k,mk b x.2 (k+(wgt a x.1:Int)))
 | .int .u8,_,k=>wu8 k
 | .int _,_,k=>k
 | .bool,_,k=>(Int.tmod k 3==0)
 | .unit,x,_=>x
noncomputable def mkT:(τ:Ty)->El τ->Int->El τ
 | .slice e,l,k=>mkL (wgt e) (mk e) l k
 | .pair a b,x,k=>(mkT a x.1 k,mkT b x.2 (k+(j2n a x.1:Int)))
 | .str,x,_=>x
 | .int _,x,_=>x
 | .bool,x,_=>x
 | .unit,x,_=>x
theorem jdR (e:Ty) (l:List (El e)):msr (.slice e) l=l.length+(l.map (msr e)).sum:=rfl
theorem j1P {e:Ty} {l:List (El e)} {n:Nat} (h:msr (.slice e) l<=n):l.length<=n:=by
 have:msr (.slice e) l=l.length+(l.map (msr e)).sum:=rfl
 omega
theorem j1Q {e:Ty} {l:List (El e)} {n:Nat} (h:msr (.slice e) l<=n) {x:El e} (hx:x∈l):msr e x<=n:=by
 have h1:msr (.slice e) l=l.length+(l.map (msr e)).sum:=rfl
 have:=Z8l (msr e) l x hx
 omega
theorem je3 {τ:Ty} {x:El τ} (hw:j3j τ<=200) (h:msr τ x<=1048576):wgt τ x<=209715400:=by
 have h1:=jdd τ x
 have h2:(msr τ x+1) * j3j τ<=1048577 * 200:=Nat.mul_le_mul (by omega) hw
 omega
theorem j1u (a b:Ty) (x:El (.pair a b)):wgt (.pair a b) x=wgt a x.1+wgt b x.2:=rfl
theorem j2e (k:IntKind) (x:El (.int k)):wgt (.int k) x=1:=rfl
theorem j1t (x:El .bool):wgt .bool x=1:=rfl
theorem j2f (x:El .str):wgt .str x=1:=rfl
theorem j2b (a b:Ty) (x:El (.pair a b)) (k:Int):mk (.pair a b) x k=(mk a x.1 k,mk b x.2 (k+(wgt a x.1:Int))):=rfl
theorem j1q (e:Ty) (l:El (.slice e)) (k:Int):mk (.slice e) l k=mkL (wgt e) (mk e) l k:=rfl
theorem j3F (x:El (.int .i64)) (k:Int):mk (.int .i64) x k=k:=rfl
theorem j57 (x:El (.int .u8)) (k:Int):mk (.int .u8) x k=wu8 k:=rfl
theorem j2a (x:El .bool) (k:Int):mk .bool x k=(Int.tmod k 3==0):=rfl
theorem j3G (x:El .str) (k:Int):mk .str x k=mT k:=rfl
theorem j7T (a b:Ty) (x:El (.pair a b)) (k:Int):mkT (.pair a b) x k=(mkT a x.1 k,mkT b x.2 (k+(j2n a x.1:Int))):=rfl
theorem j8h (e:Ty) (l:El (.slice e)) (k:Int):mkT (.slice e) l k=mkL (wgt e) (mk e) l k:=rfl
theorem ja3 (i:IntKind) (x:El (.int i)) (k:Int):mkT (.int i) x k=x:=rfl
theorem j99 (x:El .bool) (k:Int):mkT .bool x k=x:=rfl
theorem ja4 (x:El .str) (k:Int):mkT .str x k=x:=rfl
theorem j1E (a b:Ty) (x:El (.pair a b)):j2n (.pair a b) x=j2n a x.1+j2n b x.2:=rfl
theorem j39 (i:IntKind) (x:El (.int i)):j2n (.int i) x=0:=rfl
theorem j28 (x:El .bool):j2n .bool x=0:=rfl
theorem j3a (x:El .str):j2n .str x=0:=rfl
theorem ja5 {α:Type} (z:α) (l:List α) (i:Nat) (v:α) (h:i<l.length):nth z (upd l (i:Int) v) (i:Int)=v:=by
 rw [Z9h,Z9a _ _ _ (by simpa using h)];simp
theorem jaa {α:Type} (l:List α) (i:Int) (u v:α):upd (upd l i u) i v=upd l i v:=by
 unfold upd;simp
theorem ja9 {α:Type} (l:List α) (i:Int) (v:α):(upd l i v).length=l.length:=by unfold upd;simp
end Go.PI.G
namespace Go.PI.G
open Go Go.PI
theorem jgD {left:Int} (h:0<=left):szR left 0=left:=by unfold szR;rw [if_pos (by omega)];omega
theorem jhd {left:Int} {n rest:Nat} {F:Int->Res} {k:Int->Res} (h0:0<=left) (h1:left<=1048576) (hn:n<=maxLen) (hF:(n:Int)<=left->F (left-n)=k (szR (left-n) rest)) :
  (bif decide (Z8o (left-nI n)<0) then k (-1) else F (Z8o (left-nI n)))=k (szR left (n+rest)):=by
 unfold maxLen at hn
 rw [Z9j (by unfold nI;omega) (by unfold nI;omega)]
 unfold nI
 by_cases h:(n:Int)<=left
 ·rw [Z8I (by omega),cond_false,hF h,Z8W h]
 ·rw [Z8J (by omega),cond_true,Z8X h]
theorem jgh {left:Int} {k:Int->Res} (h0:0<=left):k left=k (szR left 0):=by rw [jgD h0]
theorem j08 {i n:Nat} (h:i<n):inb (i:Int) n=true:=Z9k (by omega) (by omega)
theorem j03 {n:Int} (h: -9223372036854775808<=n/\n<9223372036854775808):Z8o n=n:=Z9j h.1 h.2
theorem jgF (n:Nat):Int.tdiv (n:Int) 10=((n / 10:Nat):Int):=by
 rw [Int.tdiv_eq_ediv_of_nonneg (by omega)];omega
theorem jgG (n:Nat):Int.tmod (n:Int) 10=((n % 10:Nat):Int):=by
 rw [Int.tmod_eq_emod_of_nonneg (by omega)];omega
theorem jds {n:Nat} (h:n<10):jaf n=dgt n:=by rw [jaf,dif_pos h]
theorem jfc {n:Nat} (h:¬ n<10):jaf n=jaf (n / 10)++dgt ((n % 10:Nat):Int):=by rw [jaf,dif_neg h]
theorem jdJ:∀ (d n:Nat),n<10 ^ (d+1)->(jaf n).size<=d+1
 | 0,n,h=>by rw [jds (by omega),j94];exact Nat.le_refl _
 | d+1,n,h=>by
  by_cases h1:n<10
  ·rw [jds h1,j94];omega
  ·rw [jfc h1,ByteArray.size_append,j94]
   have:n / 10<10 ^ (d+1):=Nat.div_lt_of_lt_mul (by rw [Nat.pow_succ] at h;omega)
   have:=jdJ d (n / 10) this
   omega
theorem jha (s:ByteArray):s++eS=s:=by
 show s++ByteArray.empty=s
 simp
end Go.PI.G
