/-
  Program's code interpreted over typed values; printed texts; plain laws. No conditions.
-/
import Derived.Test.YtnemiodjnhfejaaGreatPc
import Derived.Test.YtnemiodjnhfejaaGreatPPb
import Derived.Test.YtnemiodjnhfejaaGreatPPd
import Derived.Test.YtnemiodjnhfejaaGreatPPc
set_option linter.unusedVariables false
set_option maxRecDepth 100000
namespace Go.PI.G
open Go Go.PI Go.Proofs
open Go.Code (pl pr)
noncomputable def j1E (a:List (qS×qL×qL)) (left:Int) (i:Int) (rec:Int->Int->Res) (k0:Int->Res) (k1:Unit->Res):Res:=
 bif decide (i<(nI (List.length a))) then
  bif inb i (List.length a) then
   j4l (nth ((0,eS,[],[],0,eS,[],[],eS,eS),[],[]) a i) left λ(r:Int)=>
    bif decide (r<0) then
     k1 ()
    else
     rec r (Z9L (i+1))
  else none
 else
  k0 left
noncomputable def j6g (a:List (qS×qL×qL)):(Int×Int)->(Int×Int->Res)->((Int->Res)×(Unit->Res))->Res:=λv rec q=>j1E a v.1 v.2 (λleft i=>rec (left,i)) q.1 q.2
noncomputable def j3u (a:List (qS×qL×qL)) (n:Nat) (left:Int) (i:Int) (k0:Int->Res) (k1:Unit->Res):Res:=Z1g (j6g a) n (left,i) (k0,k1)
noncomputable def j74:Z1e Unit:=λσ k=>rdN σ 27<|rd1 σ 0 y20 .S λa=>rdI σ 1 λleft=>rdI σ 5 λi=>j3u a Z1d left i (λ(left1:Int)=>k (.exit 0) (mkS 27 27 [(1,vI left1)] [])) (λ(_:Unit)=>k .ret (mkS 27 27 [(4,vI (-1))] []))
theorem j9n {W0:Base} {M:Nat->Prop} (hnp:W0.np<=0):Z15 Tryz.prog W0 M (cAt 122 (bo Tryz.f83)) j74:=j08 follows j00 (Za7 j86 Zat) hnp [] oN [0,1,5] [] ([],[]) [(0,[1],[])] ([4],[]) λσ k _ h=>rN h λhn h=>rV h λa h0 h=>rV h λleft h1 h=>rV h λi h5 h=>⟨_,ZaN (m:=27) hn (sC h0 (sC h1 (sC h5 sN))) bN,.trans (Z9v (λv:Int×Int=>(mkS 27 27 [(0,v1 y20 a .S),(1,vI v.1),(5,vI v.2)] [])) (j6g a) (λ(k:Z84 Unit)=>(((λ(left1:Int)=>k (.exit 0) (mkS 27 27 [(1,vI left1)] [])),(λ(_:Unit)=>k .ret (mkS 27 27 [(4,vI (-1))] []))):(Int->Res)×(Unit->Res))) (λv rec k=>by kernel_rfl) Z1d (left,i) k) h⟩
noncomputable def j52 (a:List (qS×qL×qL)) (left:Int) (k0:Int->Res):Res:=
 bif decide ((Z9L (left-(nI (List.length a))))<0) then
  k0 (-1)
 else
  j3u a Z1d (Z9L (left-(nI (List.length a)))) 0
   (λ(left1:Int)=>
    k0 left1)
   (λ(_:Unit)=>
    k0 (-1))
noncomputable def jaw:Sig Unit:=⟨[.look y20 false,.look tI false],[false],λvals ext k=>av vals y20 λa vals=>av vals tI λleft vals=>nl vals<|nl ext<|j52 a left (λ(r0:Int)=>k [wI r0] [] [])⟩
theorem jah:Z18 Tryz.prog 83 jaw:=j02 (np:=0) follows j00 (Za7 j86 Zat) [j74] (oI 122 0 (j9n) oN) false Tryz.func83 λ_ _ k _ h=>aV h λ_ _ _ _ _ h=>aV h λ_ _ _ _ _ h=>nL h λ_ h=>nL h λ_ h=>by subst_vars;exact .trans (by kernel_rfl) h
noncomputable def j1F (a:List (qS×qL×qL)) (out:List (qS×qL×qL)) (i:Int) (rec:(List (qS×qL×qL))->Int->Res) (k0:(List (qS×qL×qL))->Res):Res:=
 bif decide (i<(nI (List.length a))) then
  bif inb i (List.length a) then
   j4n (nth ((0,eS,[],[],0,eS,[],[],eS,eS),[],[]) a i) λ(r:qS×qL×qL)=>
    bif inb i (List.length out) then
     rec (upd out i r) (Z9L (i+1))
    else none
  else none
 else
  k0 out
noncomputable def j4d (a:List (qS×qL×qL)):((List (qS×qL×qL))×Int)->((List (qS×qL×qL))×Int->Res)->(((List (qS×qL×qL))->Res))->Res:=λv rec q=>j1F a v.1 v.2 (λout i=>rec (out,i)) q
noncomputable def j7e (a:List (qS×qL×qL)) (n:Nat) (out:List (qS×qL×qL)) (i:Int) (k0:(List (qS×qL×qL))->Res):Res:=Z1g (j4d a) n (out,i) (k0)
noncomputable def j75:Z1e Unit:=λσ k=>rdN σ 23<|rd1 σ 0 y20 .S λa=>rd1 σ 3 y20 .O λout=>rdI σ 4 λi=>j7e a Z1d out i (λ(out1:List (qS×qL×qL))=>k (.exit 0) (mkS 23 23 [(3,v1 y20 out1 .O)] []))
theorem j9o {W0:Base} {M:Nat->Prop} (hnp:W0.np<=0):Z15 Tryz.prog W0 M (cAt 58 (bo Tryz.f89)) j75:=j08 follows j00 (Za7 j88 Zat) hnp [] oN [0,3,4] [] ([],[]) [(0,[3],[])] ([],[]) λσ k _ h=>rN h λhn h=>rV h λa h0 h=>rV h λout h3 h=>rV h λi h4 h=>⟨_,ZaN (m:=23) hn (sC h0 (sC h3 (sC h4 sN))) bN,.trans (Z9v (λv:(List (qS×qL×qL))×Int=>(mkS 23 23 [(0,v1 y20 a .S),(3,v1 y20 v.1 .O),(4,vI v.2)] [])) (j4d a) (λ(k:Z84 Unit)=>(((λ(out1:List (qS×qL×qL))=>k (.exit 0) (mkS 23 23 [(3,v1 y20 out1 .O)] []))):((List (qS×qL×qL))->Res))) (λv rec k=>by kernel_rfl) Z1d (out,i) k) h⟩
noncomputable def j56 (a:List (qS×qL×qL)) (k0:(List (qS×qL×qL))->Res):Res:=
 bif Z9J (nI (List.length a)) (nI (List.length a)) then
  j7e a Z1d (Z9i (nI (List.length a)) ((0,eS,[],[],0,eS,[],[],eS,eS),[],[])) 0 λ(out:List (qS×qL×qL))=>
   k0 out
 else none
noncomputable def jax:Sig Unit:=⟨[.borrow y20 false],[false],λvals ext k=>av vals y20 λa vals=>nl vals<|nl ext<|j56 a (λ(r0:List (qS×qL×qL))=>k [w1 y20 r0 .O] [] [])⟩
theorem jaj:Z18 Tryz.prog 89 jax:=j02 (np:=0) follows j00 (Za7 j88 Zat) [j75] (oI 58 0 (j9o) oN) false Tryz.func89 λ_ _ k _ h=>aV h λ_ _ _ _ _ h=>nL h λ_ h=>nL h λ_ h=>by subst_vars;exact .trans (by kernel_rfl) h
noncomputable def j1x (a:List (qS×qL×qL)) (b:List (qS×qL×qL)) (i:Int) (rec:Int->Res) (k0:Unit->Res) (k1:Unit->Res):Res:=
 bif decide (i<(nI (List.length a))) then
  bif inb i (List.length a) then
   bif inb i (List.length b) then
    j4j (nth ((0,eS,[],[],0,eS,[],[],eS,eS),[],[]) a i) (nth ((0,eS,[],[],0,eS,[],[],eS,eS),[],[]) b i) λ(r:Bool)=>
     bif !r then
      k1 ()
     else
      rec (Z9L (i+1))
   else none
  else none
 else
  k0 ()
noncomputable def j6f (a:List (qS×qL×qL)) (b:List (qS×qL×qL)):Int->(Int->Res)->((Unit->Res)×(Unit->Res))->Res:=λv rec q=>j1x a b v (λi=>rec (i)) q.1 q.2
noncomputable def j4Y (a:List (qS×qL×qL)) (b:List (qS×qL×qL)) (n:Nat) (i:Int) (k0:Unit->Res) (k1:Unit->Res):Res:=Z1g (j6f a b) n (i) (k0,k1)
noncomputable def j73:Z1e Unit:=λσ k=>rdN σ 27<|rd1 σ 0 y20 .S λa=>rd1 σ 1 y20 .S λb=>rdI σ 5 λi=>j4Y a b Z1d i (λ(_:Unit)=>k (.exit 0) (mkS 27 27 [] [])) (λ(_:Unit)=>k .ret (mkS 27 27 [(4,vB false)] []))
theorem j9m {W0:Base} {M:Nat->Prop} (hnp:W0.np<=0):Z15 Tryz.prog W0 M (cAt 58 (bo Tryz.f96)) j73:=j08 follows j00 (Za7 j84 Zat) hnp [] oN [0,1,5] [] ([],[]) [(0,[],[])] ([4],[]) λσ k _ h=>rN h λhn h=>rV h λa h0 h=>rV h λb h1 h=>rV h λi h5 h=>⟨_,ZaN (m:=27) hn (sC h0 (sC h1 (sC h5 sN))) bN,.trans (Z9v (λv:Int=>(mkS 27 27 [(0,v1 y20 a .S),(1,v1 y20 b .S),(5,vI v)] [])) (j6f a b) (λ(k:Z84 Unit)=>(((λ(_:Unit)=>k (.exit 0) (mkS 27 27 [] [])),(λ(_:Unit)=>k .ret (mkS 27 27 [(4,vB false)] []))):(Unit->Res)×(Unit->Res))) (λv rec k=>by kernel_rfl) Z1d (i) k) h⟩
noncomputable def j4X (a:List (qS×qL×qL)) (b:List (qS×qL×qL)) (k0:Bool->Res):Res:=
 bif ((nI (List.length a)) != (nI (List.length b))) then
  k0 false
 else
  j4Y a b Z1d 0
   (λ(_:Unit)=>
    k0 true)
   (λ(_:Unit)=>
    k0 false)
noncomputable def jav:Sig Unit:=⟨[.look y20 false,.look y20 false],[false],λvals ext k=>av vals y20 λa vals=>av vals y20 λb vals=>nl vals<|nl ext<|j4X a b (λ(r0:Bool)=>k [wB r0] [] [])⟩
theorem jae:Z18 Tryz.prog 96 jav:=j02 (np:=0) follows j00 (Za7 j84 Zat) [j73] (oI 58 0 (j9m) oN) false Tryz.func96 λ_ _ k _ h=>aV h λ_ _ _ _ _ h=>aV h λ_ _ _ _ _ h=>nL h λ_ h=>nL h λ_ h=>by subst_vars;exact .trans (by kernel_rfl) h
theorem j0q:Fns Tryz.prog [(51,j5f),(98,j3F),(110,j1m),(111,j5e)]:=(Za7 j9I (Za7 j5U (Za7 j06 (Za7 j9H Zat))))
noncomputable def j1y (a:List (qS×qL×qL)) (k_:Int) (i:Int) (k0:(List (qS×qL×qL))->Res):Res:=
 j05 k_ λ(r:qB)=>
  bif inb i (List.length a) then
   k0 (upd a i (((nth ((0,eS,[],[],0,eS,[],[],eS,eS),[],[]) a i).1.1,r,(nth ((0,eS,[],[],0,eS,[],[],eS,eS),[],[]) a i).1.2.2),(nth ((0,eS,[],[],0,eS,[],[],eS,eS),[],[]) a i).2))
  else none
noncomputable def j0f:Z1e Unit:=λσ k=>rdN σ 118<|rd1 σ 0 y20 .O λa=>rdI σ 1 λk_=>rdI σ 5 λi=>j1y a k_ i (λ(a1:List (qS×qL×qL))=>k .normal (mkS 118 118 [(0,v1 y20 a1 .O),(1,vI k_),(5,vI i)] []))
theorem j8F {W0:Base} {M:Nat->Prop} (hnp:W0.np<=1):Z15 Tryz.prog W0 M (cAt 3366 (bo Tryz.f99)) j0f:=j2s follows j00 j0q hnp [] oN ([0,1,5],[]) [] ([],[]) λσ k _ h=>rN h λhn h=>rV h λa h0 h=>rV h λk_ h1 h=>rV h λi h5 h=>⟨_,ZaN (m:=118) hn (sC h0 (sC h1 (sC h5 sN))) bN,.trans (by kernel_rfl) h⟩
noncomputable def j1z (a:List (qS×qL×qL)) (k_:Int) (i:Int) (k0:(List (qS×qL×qL))->Int->Res):Res:=
 bif inb i (List.length a) then
  j2f (nth ((0,eS,[],[],0,eS,[],[],eS,eS),[],[]) a i).1.2.2.2.1 k_ λ(r:Int) (a1:List qV)=>
   k0 (upd a i (((nth ((0,eS,[],[],0,eS,[],[],eS,eS),[],[]) a i).1.1,(nth ((0,eS,[],[],0,eS,[],[],eS,eS),[],[]) a i).1.2.1,(nth ((0,eS,[],[],0,eS,[],[],eS,eS),[],[]) a i).1.2.2.1,a1,(nth ((0,eS,[],[],0,eS,[],[],eS,eS),[],[]) a i).1.2.2.2.2),(nth ((0,eS,[],[],0,eS,[],[],eS,eS),[],[]) a i).2)) r
 else none
noncomputable def j0j:Z1e Unit:=λσ k=>rdN σ 118<|rd1 σ 0 y20 .O λa=>rdI σ 1 λk_=>rdI σ 5 λi=>j1z a k_ i (λ(a2:List (qS×qL×qL)) (k_1:Int)=>k .normal (mkS 118 118 [(0,v1 y20 a2 .O),(1,vI k_1),(5,vI i)] []))
theorem j8G {W0:Base} {M:Nat->Prop} (hnp:W0.np<=1):Z15 Tryz.prog W0 M (cAt 26942 (bo Tryz.f99)) j0j:=j2s follows j00 j0q hnp [j0f] oN ([0,1,5],[]) [] ([],[]) λσ k _ h=>rN h λhn h=>rV h λa h0 h=>rV h λk_ h1 h=>rV h λi h5 h=>⟨_,ZaN (m:=118) hn (sC h0 (sC h1 (sC h5 sN))) bN,.trans (by kernel_rfl) h⟩
noncomputable def j1A (a:List (qS×qL×qL)) (k_:Int) (i:Int) (k0:(List (qS×qL×qL))->Res):Res:=
 j05 k_ λ(r:qB)=>
  bif inb i (List.length a) then
   k0 (upd a i (((nth ((0,eS,[],[],0,eS,[],[],eS,eS),[],[]) a i).1.1,(nth ((0,eS,[],[],0,eS,[],[],eS,eS),[],[]) a i).1.2.1,(nth ((0,eS,[],[],0,eS,[],[],eS,eS),[],[]) a i).1.2.2.1,(nth ((0,eS,[],[],0,eS,[],[],eS,eS),[],[]) a i).1.2.2.2.1,(nth ((0,eS,[],[],0,eS,[],[],eS,eS),[],[]) a i).1.2.2.2.2.1,r,(nth ((0,eS,[],[],0,eS,[],[],eS,eS),[],[]) a i).1.2.2.2.2.2.2),(nth ((0,eS,[],[],0,eS,[],[],eS,eS),[],[]) a i).2))
  else none
noncomputable def j0u:Z1e Unit:=λσ k=>rdN σ 118<|rd1 σ 0 y20 .O λa=>rdI σ 1 λk_=>rdI σ 5 λi=>j1A a k_ i (λ(a1:List (qS×qL×qL))=>k .normal (mkS 118 118 [(0,v1 y20 a1 .O),(1,vI k_),(5,vI i)] []))
theorem j8H {W0:Base} {M:Nat->Prop} (hnp:W0.np<=1):Z15 Tryz.prog W0 M (cAt 215550 (bo Tryz.f99)) j0u:=j2s follows j00 j0q hnp [j0f,j0j] oN ([0,1,5],[]) [] ([],[]) λσ k _ h=>rN h λhn h=>rV h λa h0 h=>rV h λk_ h1 h=>rV h λi h5 h=>⟨_,ZaN (m:=118) hn (sC h0 (sC h1 (sC h5 sN))) bN,.trans (by kernel_rfl) h⟩
noncomputable def j1B (a:List (qS×qL×qL)) (k_:Int) (i:Int) (k0:(List (qS×qL×qL))->Int->Res):Res:=
 bif inb i (List.length a) then
  j0r (nth ((0,eS,[],[],0,eS,[],[],eS,eS),[],[]) a i).1.2.2.2.2.2.2.2.1 k_ λ(r:Int) (a1:qL)=>
   k0 (upd a i (((nth ((0,eS,[],[],0,eS,[],[],eS,eS),[],[]) a i).1.1,(nth ((0,eS,[],[],0,eS,[],[],eS,eS),[],[]) a i).1.2.1,(nth ((0,eS,[],[],0,eS,[],[],eS,eS),[],[]) a i).1.2.2.1,(nth ((0,eS,[],[],0,eS,[],[],eS,eS),[],[]) a i).1.2.2.2.1,(nth ((0,eS,[],[],0,eS,[],[],eS,eS),[],[]) a i).1.2.2.2.2.1,(nth ((0,eS,[],[],0,eS,[],[],eS,eS),[],[]) a i).1.2.2.2.2.2.1,(nth ((0,eS,[],[],0,eS,[],[],eS,eS),[],[]) a i).1.2.2.2.2.2.2.1,a1,(nth ((0,eS,[],[],0,eS,[],[],eS,eS),[],[]) a i).1.2.2.2.2.2.2.2.2),(nth ((0,eS,[],[],0,eS,[],[],eS,eS),[],[]) a i).2)) r
 else none
noncomputable def j0O:Z1e Unit:=λσ k=>rdN σ 118<|rd1 σ 0 y20 .O λa=>rdI σ 1 λk_=>rdI σ 5 λi=>j1B a k_ i (λ(a2:List (qS×qL×qL)) (k_1:Int)=>k .normal (mkS 118 118 [(0,v1 y20 a2 .O),(1,vI k_1),(5,vI i)] []))
theorem j8I {W0:Base} {M:Nat->Prop} (hnp:W0.np<=1):Z15 Tryz.prog W0 M (cAt 1724414 (bo Tryz.f99)) j0O:=j2s follows j00 j0q hnp [j0f,j0j,j0u] oN ([0,1,5],[]) [] ([],[]) λσ k _ h=>rN h λhn h=>rV h λa h0 h=>rV h λk_ h1 h=>rV h λi h5 h=>⟨_,ZaN (m:=118) hn (sC h0 (sC h1 (sC h5 sN))) bN,.trans (by kernel_rfl) h⟩
noncomputable def j1C (a:List (qS×qL×qL)) (k_:Int) (i:Int) (k0:(List (qS×qL×qL))->Res):Res:=
 j05 k_ λ(r:qB)=>
  bif inb i (List.length a) then
   k0 (upd a i (((nth ((0,eS,[],[],0,eS,[],[],eS,eS),[],[]) a i).1.1,(nth ((0,eS,[],[],0,eS,[],[],eS,eS),[],[]) a i).1.2.1,(nth ((0,eS,[],[],0,eS,[],[],eS,eS),[],[]) a i).1.2.2.1,(nth ((0,eS,[],[],0,eS,[],[],eS,eS),[],[]) a i).1.2.2.2.1,(nth ((0,eS,[],[],0,eS,[],[],eS,eS),[],[]) a i).1.2.2.2.2.1,(nth ((0,eS,[],[],0,eS,[],[],eS,eS),[],[]) a i).1.2.2.2.2.2.1,(nth ((0,eS,[],[],0,eS,[],[],eS,eS),[],[]) a i).1.2.2.2.2.2.2.1,(nth ((0,eS,[],[],0,eS,[],[],eS,eS),[],[]) a i).1.2.2.2.2.2.2.2.1,r,(nth ((0,eS,[],[],0,eS,[],[],eS,eS),[],[]) a i).1.2.2.2.2.2.2.2.2.2),(nth ((0,eS,[],[],0,eS,[],[],eS,eS),[],[]) a i).2))
  else none
noncomputable def j1l:Z1e Unit:=λσ k=>rdN σ 118<|rd1 σ 0 y20 .O λa=>rdI σ 1 λk_=>rdI σ 5 λi=>j1C a k_ i (λ(a1:List (qS×qL×qL))=>k .normal (mkS 118 118 [(0,v1 y20 a1 .O),(1,vI k_),(5,vI i)] []))
theorem j8J {W0:Base} {M:Nat->Prop} (hnp:W0.np<=1):Z15 Tryz.prog W0 M (cAt 3448830 (bo Tryz.f99)) j1l:=j2s follows j00 j0q hnp [j0f,j0j,j0u,j0O] oN ([0,1,5],[]) [] ([],[]) λσ k _ h=>rN h λhn h=>rV h λa h0 h=>rV h λk_ h1 h=>rV h λi h5 h=>⟨_,ZaN (m:=118) hn (sC h0 (sC h1 (sC h5 sN))) bN,.trans (by kernel_rfl) h⟩
noncomputable def j1D (a:List (qS×qL×qL)) (k_:Int) (i:Int) (k0:(List (qS×qL×qL))->Res):Res:=
 j05 k_ λ(r:qB)=>
  bif inb i (List.length a) then
   k0 (upd a i (((nth ((0,eS,[],[],0,eS,[],[],eS,eS),[],[]) a i).1.1,(nth ((0,eS,[],[],0,eS,[],[],eS,eS),[],[]) a i).1.2.1,(nth ((0,eS,[],[],0,eS,[],[],eS,eS),[],[]) a i).1.2.2.1,(nth ((0,eS,[],[],0,eS,[],[],eS,eS),[],[]) a i).1.2.2.2.1,(nth ((0,eS,[],[],0,eS,[],[],eS,eS),[],[]) a i).1.2.2.2.2.1,(nth ((0,eS,[],[],0,eS,[],[],eS,eS),[],[]) a i).1.2.2.2.2.2.1,(nth ((0,eS,[],[],0,eS,[],[],eS,eS),[],[]) a i).1.2.2.2.2.2.2.1,(nth ((0,eS,[],[],0,eS,[],[],eS,eS),[],[]) a i).1.2.2.2.2.2.2.2.1,(nth ((0,eS,[],[],0,eS,[],[],eS,eS),[],[]) a i).1.2.2.2.2.2.2.2.2.1,r),(nth ((0,eS,[],[],0,eS,[],[],eS,eS),[],[]) a i).2))
  else none
noncomputable def j2B:Z1e Unit:=λσ k=>rdN σ 118<|rd1 σ 0 y20 .O λa=>rdI σ 1 λk_=>rdI σ 5 λi=>j1D a k_ i (λ(a1:List (qS×qL×qL))=>k .normal (mkS 118 118 [(0,v1 y20 a1 .O),(1,vI k_),(5,vI i)] []))
theorem j8K {W0:Base} {M:Nat->Prop} (hnp:W0.np<=1):Z15 Tryz.prog W0 M (cAt 13795326 (bo Tryz.f99)) j2B:=j2s follows j00 j0q hnp [j0f,j0j,j0u,j0O,j1l] oN ([0,1,5],[]) [] ([],[]) λσ k _ h=>rN h λhn h=>rV h λa h0 h=>rV h λk_ h1 h=>rV h λi h5 h=>⟨_,ZaN (m:=118) hn (sC h0 (sC h1 (sC h5 sN))) bN,.trans (by kernel_rfl) h⟩
noncomputable def j0B (a:List (qS×qL×qL)) (k_:Int) (i:Int) (rec:(List (qS×qL×qL))->Int->Int->Res) (k0:(List (qS×qL×qL))->Int->Res):Res:=
 bif decide (i<(nI (List.length a))) then
  bif inb i (List.length a) then
   j1y (upd a i ((k_,(nth ((0,eS,[],[],0,eS,[],[],eS,eS),[],[]) a i).1.2),(nth ((0,eS,[],[],0,eS,[],[],eS,eS),[],[]) a i).2)) (Z9L (k_+1)) i λ(a1:List (qS×qL×qL))=>
    bif inb i (List.length a1) then
     j2f (nth ((0,eS,[],[],0,eS,[],[],eS,eS),[],[]) a1 i).1.2.2.1 (Z9L ((Z9L (k_+1))+1)) λ(r:Int) (a2:List qV)=>
      j1z (upd a1 i (((nth ((0,eS,[],[],0,eS,[],[],eS,eS),[],[]) a1 i).1.1,(nth ((0,eS,[],[],0,eS,[],[],eS,eS),[],[]) a1 i).1.2.1,a2,(nth ((0,eS,[],[],0,eS,[],[],eS,eS),[],[]) a1 i).1.2.2.2),(nth ((0,eS,[],[],0,eS,[],[],eS,eS),[],[]) a1 i).2)) r i λ(a3:List (qS×qL×qL)) (k_1:Int)=>
       bif inb i (List.length a3) then
        j1A (upd a3 i (((nth ((0,eS,[],[],0,eS,[],[],eS,eS),[],[]) a3 i).1.1,(nth ((0,eS,[],[],0,eS,[],[],eS,eS),[],[]) a3 i).1.2.1,(nth ((0,eS,[],[],0,eS,[],[],eS,eS),[],[]) a3 i).1.2.2.1,(nth ((0,eS,[],[],0,eS,[],[],eS,eS),[],[]) a3 i).1.2.2.2.1,k_1,(nth ((0,eS,[],[],0,eS,[],[],eS,eS),[],[]) a3 i).1.2.2.2.2.2),(nth ((0,eS,[],[],0,eS,[],[],eS,eS),[],[]) a3 i).2)) (Z9L (k_1+1)) i λ(a4:List (qS×qL×qL))=>
         bif inb i (List.length a4) then
          j3c (nth ((0,eS,[],[],0,eS,[],[],eS,eS),[],[]) a4 i).1.2.2.2.2.2.2.1 (Z9L ((Z9L (k_1+1))+1)) λ(r1:Int) (a5:List qC)=>
           j1B (upd a4 i (((nth ((0,eS,[],[],0,eS,[],[],eS,eS),[],[]) a4 i).1.1,(nth ((0,eS,[],[],0,eS,[],[],eS,eS),[],[]) a4 i).1.2.1,(nth ((0,eS,[],[],0,eS,[],[],eS,eS),[],[]) a4 i).1.2.2.1,(nth ((0,eS,[],[],0,eS,[],[],eS,eS),[],[]) a4 i).1.2.2.2.1,(nth ((0,eS,[],[],0,eS,[],[],eS,eS),[],[]) a4 i).1.2.2.2.2.1,(nth ((0,eS,[],[],0,eS,[],[],eS,eS),[],[]) a4 i).1.2.2.2.2.2.1,a5,(nth ((0,eS,[],[],0,eS,[],[],eS,eS),[],[]) a4 i).1.2.2.2.2.2.2.2),(nth ((0,eS,[],[],0,eS,[],[],eS,eS),[],[]) a4 i).2)) r1 i λ(a6:List (qS×qL×qL)) (k_2:Int)=>
            j1C a6 k_2 i λ(a7:List (qS×qL×qL))=>
             j1D a7 (Z9L (k_2+1)) i λ(a8:List (qS×qL×qL))=>
              bif inb i (List.length a8) then
               j0r (nth ((0,eS,[],[],0,eS,[],[],eS,eS),[],[]) a8 i).2.1 (Z9L ((Z9L (k_2+1))+1)) λ(r2:Int) (a9:qL)=>
                bif inb i (List.length (upd a8 i ((nth ((0,eS,[],[],0,eS,[],[],eS,eS),[],[]) a8 i).1,a9,(nth ((0,eS,[],[],0,eS,[],[],eS,eS),[],[]) a8 i).2.2))) then
                 j0r (nth ((0,eS,[],[],0,eS,[],[],eS,eS),[],[]) (upd a8 i ((nth ((0,eS,[],[],0,eS,[],[],eS,eS),[],[]) a8 i).1,a9,(nth ((0,eS,[],[],0,eS,[],[],eS,eS),[],[]) a8 i).2.2)) i).2.2 r2 λ(r3:Int) (a10:qL)=>
                  rec (upd (upd a8 i ((nth ((0,eS,[],[],0,eS,[],[],eS,eS),[],[]) a8 i).1,a9,(nth ((0,eS,[],[],0,eS,[],[],eS,eS),[],[]) a8 i).2.2)) i ((nth ((0,eS,[],[],0,eS,[],[],eS,eS),[],[]) (upd a8 i ((nth ((0,eS,[],[],0,eS,[],[],eS,eS),[],[]) a8 i).1,a9,(nth ((0,eS,[],[],0,eS,[],[],eS,eS),[],[]) a8 i).2.2)) i).1,(nth ((0,eS,[],[],0,eS,[],[],eS,eS),[],[]) (upd a8 i ((nth ((0,eS,[],[],0,eS,[],[],eS,eS),[],[]) a8 i).1,a9,(nth ((0,eS,[],[],0,eS,[],[],eS,eS),[],[]) a8 i).2.2)) i).2.1,a10)) r3 (Z9L (i+1))
                else none
              else none
         else none
       else none
    else none
  else none
 else
  k0 a k_
noncomputable def j26:((List (qS×qL×qL))×Int×Int)->((List (qS×qL×qL))×Int×Int->Res)->(((List (qS×qL×qL))->Int->Res))->Res:=λv rec q=>j0B v.1 v.2.1 v.2.2 (λa k_ i=>rec (a,k_,i)) q
noncomputable def j4c (n:Nat) (a:List (qS×qL×qL)) (k_:Int) (i:Int) (k0:(List (qS×qL×qL))->Int->Res):Res:=Z1g (j26) n (a,k_,i) (k0)
noncomputable def j64:Z1e Unit:=λσ k=>rdN σ 118<|rd1 σ 0 y20 .O λa=>rdI σ 1 λk_=>rdI σ 5 λi=>j4c Z1d a k_ i (λ(a11:List (qS×qL×qL)) (k_3:Int)=>k (.exit 0) (mkS 118 118 [(0,v1 y20 a11 .O),(1,vI k_3)] []))
theorem j8E {W0:Base} {M:Nat->Prop} (hnp:W0.np<=1):Z15 Tryz.prog W0 M (cAt 26 (bo Tryz.f99)) j64:=j08 follows j00 j0q hnp [j0f,j0j,j0u,j0O,j1l,j2B] (oI 102 0 (j8F) (oI 830 1 (j8G) (oI 6654 2 (j8H) (oI 53246 3 (j8I) (oI 106494 4 (j8J) (oI 425982 5 (j8K) oN)))))) [0,1,5] [] ([],[]) [(0,[0,1],[])] ([],[]) λσ k _ h=>rN h λhn h=>rV h λa h0 h=>rV h λk_ h1 h=>rV h λi h5 h=>⟨_,ZaN (m:=118) hn (sC h0 (sC h1 (sC h5 sN))) bN,.trans (Z9v (λv:(List (qS×qL×qL))×Int×Int=>(mkS 118 118 [(0,v1 y20 v.1 .O),(1,vI v.2.1),(5,vI v.2.2)] [])) (j26) (λ(k:Z84 Unit)=>(((λ(a11:List (qS×qL×qL)) (k_3:Int)=>k (.exit 0) (mkS 118 118 [(0,v1 y20 a11 .O),(1,vI k_3)] []))):((List (qS×qL×qL))->Int->Res))) (λv rec k=>by delta j26 j0B j0f j5f j0j j0u j5e j0O j1l j2B j3F;refine gz j1y λ_ e=> ?_;rewrite [<-e];refine gz j2f λ_ e=> ?_;rewrite [<-e];refine gz j1z λ_ e=> ?_;rewrite [<-e];refine gz j1A λ_ e=> ?_;rewrite [<-e];refine gz j3c λ_ e=> ?_;rewrite [<-e];refine gz j1B λ_ e=> ?_;rewrite [<-e];refine gz j1C λ_ e=> ?_;rewrite [<-e];refine gz j1D λ_ e=> ?_;rewrite [<-e];refine gz j0r λ_ e=> ?_;rewrite [<-e];kernel_rfl) Z1d (a,k_,i) k) h⟩
noncomputable def j3V (a:List (qS×qL×qL)) (k_:Int) (k0:Int->(List (qS×qL×qL))->Res):Res:=
 j4c Z1d a k_ 0 λ(a1:List (qS×qL×qL)) (k_1:Int)=>
  k0 k_1 a1
noncomputable def j9z:Sig Unit:=⟨[.inout y20 false,.borrow tI false],[false],λvals ext k=>ao vals y20 [.O] λa vals=>av vals tI λk_ vals=>nl vals<|nl ext<|j3V a k_ (λ(r0:Int) (i0:List (qS×qL×qL))=>k [wI r0] [w1 y20 i0 .O] [])⟩
theorem j9i:Z18 Tryz.prog 99 j9z:=j02 (np:=1) follows j00 j0q [j0f,j0j,j0u,j0O,j1l,j2B,j64] (oI 26 6 (j8E) oN) false Tryz.func99 λ_ _ k _ h=>aO h λ_ _ _ _ h=>aV h λ_ _ _ _ _ h=>nL h λ_ h=>nL h λ_ h=>by subst_vars;exact .trans (by kernel_rfl) h
theorem j6y:Fns Tryz.prog [(110,j1m),(118,j5d),(145,j5c),(146,j3E)]:=(Za7 j06 (Za7 j9G (Za7 j9F (Za7 j8q Zat))))
noncomputable def j0A (a:List (qS×qL×qL)) (k_:Int) (i:Int) (rec:Int->Int->Res) (k0:Int->Res) (k1:Unit->Res):Res:=
 bif decide (i<(nI (List.length a))) then
  bif inb i (List.length a) then
   bif ((nth ((0,eS,[],[],0,eS,[],[],eS,eS),[],[]) a i).1.1 != k_) then
    k1 ()
   else
    bif inb i (List.length a) then
     j05 (Z9L (k_+1)) λ(r:qB)=>
      bif sNe (nth ((0,eS,[],[],0,eS,[],[],eS,eS),[],[]) a i).1.2.1 r then
       k1 ()
      else
       bif inb i (List.length a) then
        j2e (nth ((0,eS,[],[],0,eS,[],[],eS,eS),[],[]) a i).1.2.2.1 (Z9L ((Z9L (k_+1))+1)) λ(r1:Int)=>
         bif decide (r1<0) then
          k1 ()
         else
          bif inb i (List.length a) then
           j2e (nth ((0,eS,[],[],0,eS,[],[],eS,eS),[],[]) a i).1.2.2.2.1 r1 λ(r2:Int)=>
            bif decide (r2<0) then
             k1 ()
            else
             bif inb i (List.length a) then
              bif ((nth ((0,eS,[],[],0,eS,[],[],eS,eS),[],[]) a i).1.2.2.2.2.1 != r2) then
               k1 ()
              else
               bif inb i (List.length a) then
                j05 (Z9L (r2+1)) λ(r3:qB)=>
                 bif sNe (nth ((0,eS,[],[],0,eS,[],[],eS,eS),[],[]) a i).1.2.2.2.2.2.1 r3 then
                  k1 ()
                 else
                  bif inb i (List.length a) then
                   j3b (nth ((0,eS,[],[],0,eS,[],[],eS,eS),[],[]) a i).1.2.2.2.2.2.2.1 (Z9L ((Z9L (r2+1))+1)) λ(r4:Int)=>
                    bif decide (r4<0) then
                     k1 ()
                    else
                     bif inb i (List.length a) then
                      j0G (nth ((0,eS,[],[],0,eS,[],[],eS,eS),[],[]) a i).1.2.2.2.2.2.2.2.1 r4 λ(r5:Int)=>
                       bif decide (r5<0) then
                        k1 ()
                       else
                        bif inb i (List.length a) then
                         j05 r5 λ(r6:qB)=>
                          bif sNe (nth ((0,eS,[],[],0,eS,[],[],eS,eS),[],[]) a i).1.2.2.2.2.2.2.2.2.1 r6 then
                           k1 ()
                          else
                           bif inb i (List.length a) then
                            j05 (Z9L (r5+1)) λ(r7:qB)=>
                             bif sNe (nth ((0,eS,[],[],0,eS,[],[],eS,eS),[],[]) a i).1.2.2.2.2.2.2.2.2.2 r7 then
                              k1 ()
                             else
                              bif inb i (List.length a) then
                               j0G (nth ((0,eS,[],[],0,eS,[],[],eS,eS),[],[]) a i).2.1 (Z9L ((Z9L (r5+1))+1)) λ(r8:Int)=>
                                bif decide (r8<0) then
                                 k1 ()
                                else
                                 bif inb i (List.length a) then
                                  j0G (nth ((0,eS,[],[],0,eS,[],[],eS,eS),[],[]) a i).2.2 r8 λ(r9:Int)=>
                                   bif decide (r9<0) then
                                    k1 ()
                                   else
                                    rec r9 (Z9L (i+1))
                                 else none
                              else none
                           else none
                        else none
                     else none
                  else none
               else none
             else none
          else none
       else none
    else none
  else none
 else
  k0 k_
noncomputable def j25 (a:List (qS×qL×qL)):(Int×Int)->(Int×Int->Res)->((Int->Res)×(Unit->Res))->Res:=λv rec q=>j0A a v.1 v.2 (λk_ i=>rec (k_,i)) q.1 q.2
noncomputable def j4b (a:List (qS×qL×qL)) (n:Nat) (k_:Int) (i:Int) (k0:Int->Res) (k1:Unit->Res):Res:=Z1g (j25 a) n (k_,i) (k0,k1)
noncomputable def j63:Z1e Unit:=λσ k=>rdN σ 142<|rd1 σ 0 y20 .S λa=>rdI σ 1 λk_=>rdI σ 5 λi=>j4b a Z1d k_ i (λ(k_1:Int)=>k (.exit 0) (mkS 142 142 [(1,vI k_1)] [])) (λ(_:Unit)=>k .ret (mkS 142 142 [(4,vI (-1))] []))
theorem j8D {W0:Base} {M:Nat->Prop} (hnp:W0.np<=0):Z15 Tryz.prog W0 M (cAt 26 (bo Tryz.f100)) j63:=j08 follows j00 j6y hnp [] oN [0,1,5] [] ([],[]) [(0,[1],[])] ([4],[]) λσ k _ h=>rN h λhn h=>rV h λa h0 h=>rV h λk_ h1 h=>rV h λi h5 h=>⟨_,ZaN (m:=142) hn (sC h0 (sC h1 (sC h5 sN))) bN,.trans (Z9v (λv:Int×Int=>(mkS 142 142 [(0,v1 y20 a .S),(1,vI v.1),(5,vI v.2)] [])) (j25 a) (λ(k:Z84 Unit)=>(((λ(k_1:Int)=>k (.exit 0) (mkS 142 142 [(1,vI k_1)] [])),(λ(_:Unit)=>k .ret (mkS 142 142 [(4,vI (-1))] []))):(Int->Res)×(Unit->Res))) (λv rec k=>by delta j25 j0A j1m j5d j5c j3E;refine gz j05 λ_ e=> ?_;rewrite [<-e];refine gz j2e λ_ e=> ?_;rewrite [<-e];refine gz j3b λ_ e=> ?_;rewrite [<-e];refine gz j0G λ_ e=> ?_;rewrite [<-e];kernel_rfl) Z1d (k_,i) k) h⟩
noncomputable def j3U (a:List (qS×qL×qL)) (k_:Int) (k0:Int->Res):Res:=
 j4b a Z1d k_ 0
  (λ(k_1:Int)=>
   k0 k_1)
  (λ(_:Unit)=>
   k0 (-1))
noncomputable def j9y:Sig Unit:=⟨[.look y20 false,.look tI false],[false],λvals ext k=>av vals y20 λa vals=>av vals tI λk_ vals=>nl vals<|nl ext<|j3U a k_ (λ(r0:Int)=>k [wI r0] [] [])⟩
theorem j9g:Z18 Tryz.prog 100 j9y:=j02 (np:=0) follows j00 j6y [j63] (oI 26 0 (j8D) oN) false Tryz.func100 λ_ _ k _ h=>aV h λ_ _ _ _ _ h=>aV h λ_ _ _ _ _ h=>nL h λ_ h=>nL h λ_ h=>by subst_vars;exact .trans (by kernel_rfl) h
end Go.PI.G
namespace Go.PI.G
open Go Go.PI Go.Proofs
open Go.Code (pl pr)
noncomputable def j3D (a:Int×Int×List (qS×qL×qL)) (left:Int) (k0:Int->Res):Res:=
 j52 a.2.2 left λ(r:Int)=>
  bif decide (r<0) then
   k0 (-1)
  else
   k0 r
noncomputable def j5K:Sig Unit:=⟨[.look y22 true,.look tI false],[false],λvals ext k=>av vals y22 λa vals=>av vals tI λleft vals=>nl vals<|nl ext<|j3D a left (λ(r0:Int)=>k [wI r0] [] [])⟩
theorem jag:Z18 Tryz.prog 16 j5K:=j02 (np:=0) follows j00 (Za7 jah Zat) [] oN false Tryz.func16 λ_ _ k _ h=>aV h λ_ _ _ _ _ h=>aV h λ_ _ _ _ _ h=>nL h λ_ h=>nL h λ_ h=>by subst_vars;exact .trans (by kernel_rfl) h
noncomputable def j0e (a:Int×Int×List (qS×qL×qL)) (k0:(Int×Int×List (qS×qL×qL))->Res):Res:=
 j56 a.2.2 λ(r:List (qS×qL×qL))=>
  k0 (a.1,a.2.1,r)
noncomputable def j2S:Sig Unit:=⟨[.borrow y22 true],[true],λvals ext k=>av vals y22 λa vals=>nl vals<|nl ext<|j0e a (λ(r0:Int×Int×List (qS×qL×qL))=>k [⟨y22,true,r0,[.O]⟩] [] [])⟩
theorem jai:Z18 Tryz.prog 19 j2S:=j02 (np:=0) follows j00 (Za7 jaj Zat) [] oN false Tryz.func19 λ_ _ k _ h=>aV h λ_ _ _ _ _ h=>nL h λ_ h=>nL h λ_ h=>by subst_vars;exact .trans (by kernel_rfl) h
noncomputable def j0R (a:Int×Int×List (qS×qL×qL)) (b:Int×Int×List (qS×qL×qL)) (k0:Bool->Res):Res:=
 bif (a.1 != b.1) then
  k0 false
 else
  bif (a.2.1 != b.2.1) then
   k0 false
  else
   j4X a.2.2 b.2.2 λ(r:Bool)=>
    bif !r then
     k0 false
    else
     k0 true
noncomputable def j41:Sig Unit:=⟨[.look y22 true,.look y22 true],[false],λvals ext k=>av vals y22 λa vals=>av vals y22 λb vals=>nl vals<|nl ext<|j0R a b (λ(r0:Bool)=>k [wB r0] [] [])⟩
theorem jad:Z18 Tryz.prog 21 j41:=j02 (np:=0) follows j00 (Za7 jae Zat) [] oN false Tryz.func21 λ_ _ k _ h=>aV h λ_ _ _ _ _ h=>aV h λ_ _ _ _ _ h=>nL h λ_ h=>nL h λ_ h=>by subst_vars;exact .trans (by kernel_rfl) h
noncomputable def j1N (a:Int×Int×List (qS×qL×qL)) (k_:Int) (k0:Int->(Int×Int×List (qS×qL×qL))->Res):Res:=
 j3V a.2.2 k_ λ(r:Int) (a1:List (qS×qL×qL))=>
  k0 r (a.1,a.2.1,a1)
noncomputable def j4G:Sig Unit:=⟨[.inout y22 true,.borrow tI false],[false],λvals ext k=>ao vals y22 [.O] λa vals=>av vals tI λk_ vals=>nl vals<|nl ext<|j1N a k_ (λ(r0:Int) (i0:Int×Int×List (qS×qL×qL))=>k [wI r0] [⟨y22,true,i0,[.O]⟩] [])⟩
theorem j9h:Z18 Tryz.prog 24 j4G:=j02 (np:=1) follows j00 (Za7 j9i Zat) [] oN false Tryz.func24 λ_ _ k _ h=>aO h λ_ _ _ _ h=>aV h λ_ _ _ _ _ h=>nL h λ_ h=>nL h λ_ h=>by subst_vars;exact .trans (by kernel_rfl) h
noncomputable def j1M (a:Int×Int×List (qS×qL×qL)) (k_:Int) (k0:Int->Res):Res:=
 j3U a.2.2 k_ λ(r:Int)=>
  bif decide (r<0) then
   k0 (-1)
  else
   k0 r
noncomputable def j4F:Sig Unit:=⟨[.look y22 true,.look tI false],[false],λvals ext k=>av vals y22 λa vals=>av vals tI λk_ vals=>nl vals<|nl ext<|j1M a k_ (λ(r0:Int)=>k [wI r0] [] [])⟩
theorem j9f:Z18 Tryz.prog 25 j4F:=j02 (np:=0) follows j00 (Za7 j9g Zat) [] oN false Tryz.func25 λ_ _ k _ h=>aV h λ_ _ _ _ _ h=>aV h λ_ _ _ _ _ h=>nL h λ_ h=>nL h λ_ h=>by subst_vars;exact .trans (by kernel_rfl) h
end Go.PI.G
namespace Go.PI.G
open Go Go.PI Go.Proofs
open Go.Code (pl pr)
noncomputable def j53 (a:qL) (left:Int) (k0:Int->Res):Res:=
 j0x a left λ(r:Int)=>
  bif decide (r<0) then
   k0 (-1)
  else
   k0 r
noncomputable def j6Y:Sig Unit:=⟨[.look y0 true,.look tI false],[false],λvals ext k=>av vals y0 λa vals=>av vals tI λleft vals=>nl vals<|nl ext<|j53 a left (λ(r0:Int)=>k [wI r0] [] [])⟩
theorem jbk:Z18 Tryz.prog 15 j6Y:=j02 (np:=0) follows j00 (Za7 j4u Zat) [] oN false Tryz.func15 λ_ _ k _ h=>aV h λ_ _ _ _ _ h=>aV h λ_ _ _ _ _ h=>nL h λ_ h=>nL h λ_ h=>by subst_vars;exact .trans (by kernel_rfl) h
noncomputable def j0D (a:qL) (k0:qL->Res):Res:=
 j0y a λ(r:qL)=>
  k0 r
noncomputable def j3G:Sig Unit:=⟨[.borrow y0 true],[true],λvals ext k=>av vals y0 λa vals=>nl vals<|nl ext<|j0D a (λ(r0:qL)=>k [⟨y0,true,r0,[.O]⟩] [] [])⟩
theorem jbn:Z18 Tryz.prog 18 j3G:=j02 (np:=0) follows j00 (Za7 j4v Zat) [] oN false Tryz.func18 λ_ _ k _ h=>aV h λ_ _ _ _ _ h=>nL h λ_ h=>nL h λ_ h=>by subst_vars;exact .trans (by kernel_rfl) h
noncomputable def j4Z (a:qL) (b:qL) (k0:Bool->Res):Res:=
 j0w a b λ(r:Bool)=>
  bif !r then
   k0 false
  else
   k0 true
noncomputable def j6X:Sig Unit:=⟨[.look y0 true,.look y0 true],[false],λvals ext k=>av vals y0 λa vals=>av vals y0 λb vals=>nl vals<|nl ext<|j4Z a b (λ(r0:Bool)=>k [wB r0] [] [])⟩
theorem jbh:Z18 Tryz.prog 22 j6X:=j02 (np:=0) follows j00 (Za7 j4t Zat) [] oN false Tryz.func22 λ_ _ k _ h=>aV h λ_ _ _ _ _ h=>aV h λ_ _ _ _ _ h=>nL h λ_ h=>nL h λ_ h=>by subst_vars;exact .trans (by kernel_rfl) h
noncomputable def j3B (a:qL) (k_:Int) (k0:Int->qL->Res):Res:=
 j0r a k_ λ(r:Int) (a1:qL)=>
  k0 r a1
noncomputable def j5J:Sig Unit:=⟨[.inout y0 true,.borrow tI false],[false],λvals ext k=>ao vals y0 [.O] λa vals=>av vals tI λk_ vals=>nl vals<|nl ext<|j3B a k_ (λ(r0:Int) (i0:qL)=>k [wI r0] [⟨y0,true,i0,[.O]⟩] [])⟩
theorem jaf:Z18 Tryz.prog 23 j5J:=j02 (np:=1) follows j00 (Za7 j5U Zat) [] oN false Tryz.func23 λ_ _ k _ h=>aO h λ_ _ _ _ h=>aV h λ_ _ _ _ _ h=>nL h λ_ h=>nL h λ_ h=>by subst_vars;exact .trans (by kernel_rfl) h
end Go.PI.G
namespace Go.PI.G
open Go Go.PI Go.Proofs
open Go.Code (pl pr)
theorem j1a:Fns Tryz.prog [(15,j6Y),(16,j5K),(17,j5h),(18,j3G),(19,j2S),(20,j3v),(21,j41),(22,j6X),(23,j5J),(24,j4G),(25,j4F)]:=(Za7 jbk (Za7 jag (Za7 j9J (Za7 jbn (Za7 jai (Za7 j9B (Za7 jad (Za7 jbh (Za7 jaf (Za7 j9h (Za7 j9f Zat)))))))))))
noncomputable def j0k (aP:qL) (aB:Int×Int×List (qS×qL×qL)) (k0:(Int×Int×List (qS×qL×qL))->Res):Res:=
 Z88
  (j0D aP λ(r:qL)=>
   Z88
    (j0e aB λ(r1:Int×Int×List (qS×qL×qL))=>
     Z88
      (j0F r r1 λ(r2:Int×Int×List (qS×qL×qL))=>
       k0 r2)
      (j0F r r1 λ(r3:Int×Int×List (qS×qL×qL))=>
       k0 r3))
    (j0e aB λ(r4:Int×Int×List (qS×qL×qL))=>
     j0F r r4 λ(r5:Int×Int×List (qS×qL×qL))=>
      k0 r5))
  (j0D aP λ(r6:qL)=>
   j0e aB λ(r7:Int×Int×List (qS×qL×qL))=>
    j0F r6 r7 λ(r8:Int×Int×List (qS×qL×qL))=>
     k0 r8)
noncomputable def j0t:Z1e Unit:=λσ k=>rdN σ 92<|rdT σ 2 (pB 2)<|rdT σ 3 (pB 3)<|rdB σ 2 y0 [.S] λa aP=>rdB σ 3 y22 [.S] λa1 aB=>j0k aP aB (λ(w0:Int×Int×List (qS×qL×qL))=>k .normal (mkS 92 92 [(2,pB 2),(3,pB 3),(6,pB 6)] [(2,⟨y0,a,aP,[.S]⟩),(3,⟨y22,a1,aB,[.S]⟩),(6,w1 y22 w0 .O)]))
theorem j6N {W0:Base} {M:Nat->Prop} (hnp:W0.np<=0):Z15 Tryz.prog W0 M (cAt 254 (bo Tryz.f3)) j0t:=j2s follows j00 j1a hnp [] oN ([2,3,6],[2,3,6]) [] ([],[]) λσ k _ h=>rN h λhn h=>rT h λh2 h=>rT h λh3 h=>rB h λa aP hb2 h=>rB h λa1 aB hb3 h=>⟨_,ZaN (m:=92) hn (sC h2 (sC h3 sN)) (bC hb2 (bC hb3 bN)),.trans (by delta j0k j3G j2S j5h;refine gz j0D λ_ e=> ?_;rewrite [<-e];refine gz j0e λ_ e=> ?_;rewrite [<-e];refine gz j0F λ_ e=> ?_;rewrite [<-e];kernel_rfl) h⟩
noncomputable def j0l (aP:qL) (aB:Int×Int×List (qS×qL×qL)) (k0:(Int×Int×List (qS×qL×qL))->Res):Res:=
 Z88
  (j0D aP λ(r:qL)=>
   Z88
    (j0e aB λ(r1:Int×Int×List (qS×qL×qL))=>
     Z88
      (j0m r r1 λ(r2:Int×Int×List (qS×qL×qL))=>
       k0 r2)
      (j0m r r1 λ(r3:Int×Int×List (qS×qL×qL))=>
       k0 r3))
    (j0e aB λ(r4:Int×Int×List (qS×qL×qL))=>
     j0m r r4 λ(r5:Int×Int×List (qS×qL×qL))=>
      k0 r5))
  (j0D aP λ(r6:qL)=>
   j0e aB λ(r7:Int×Int×List (qS×qL×qL))=>
    j0m r6 r7 λ(r8:Int×Int×List (qS×qL×qL))=>
     k0 r8)
noncomputable def j0T:Z1e Unit:=λσ k=>rdN σ 92<|rdT σ 2 (pB 2)<|rdT σ 3 (pB 3)<|rdT σ 6 (pB 6)<|rdT σ 9 (pB 9)<|rdI σ 11 λm=>rdB σ 2 y0 [.S] λa aP=>rdB σ 3 y22 [.S] λa1 aB=>rdB σ 6 y22 [.O] λa2 w0=>rdB σ 9 y22 [.O] λa3 g0=>j0l aP aB (λ(h0:Int×Int×List (qS×qL×qL))=>k .normal (mkS 92 92 [(6,pB 6),(9,pB 9),(11,vI m),(13,pB 13)] [(6,⟨y22,a2,w0,[.O]⟩),(9,⟨y22,a3,g0,[.O]⟩),(13,w1 y22 h0 .O)]))
theorem j6O {W0:Base} {M:Nat->Prop} (hnp:W0.np<=0):Z15 Tryz.prog W0 M (cAt 33554430 (bo Tryz.f3)) j0T:=j2s follows j00 j1a hnp [j0t] oN ([6,9,11,13],[6,9,13]) [] ([],[]) λσ k _ h=>rN h λhn h=>rT h λh2 h=>rT h λh3 h=>rT h λh6 h=>rT h λh9 h=>rV h λm h11 h=>rB h λa aP hb2 h=>rB h λa1 aB hb3 h=>rB h λa2 w0 hb6 h=>rB h λa3 g0 hb9 h=>⟨_,ZaN (m:=92) hn (sC h2 (sC h3 (sC h6 (sC h9 (sC h11 sN))))) (bC hb2 (bC hb3 (bC hb6 (bC hb9 bN)))),.trans (by delta j0l j3G j2S j3v;refine gz j0D λ_ e=> ?_;rewrite [<-e];refine gz j0e λ_ e=> ?_;rewrite [<-e];refine gz j0m λ_ e=> ?_;rewrite [<-e];kernel_rfl) h⟩
noncomputable def j0z (aP:qL) (aB:Int×Int×List (qS×qL×qL)) (w0:Int×Int×List (qS×qL×qL)) (x0:qL) (x1:Int×Int×List (qS×qL×qL)) (g0:Int×Int×List (qS×qL×qL)) (k0:Bool->Res):Res:=
 j3B x0 1 λ(r:Int) (a6:qL)=>
  j1N x1 r λ(r1:Int) (a7:Int×Int×List (qS×qL×qL))=>
   bif decide (r1<0) then
    k0 false
   else
    j0R g0 w0 λ(r2:Bool)=>
     bif !r2 then
      k0 false
     else
      j1N g0 1 λ(r3:Int) (a8:Int×Int×List (qS×qL×qL))=>
       j1M a8 1 λ(r4:Int)=>
        bif decide (r4<0) then
         k0 false
        else
         bif (r4 != r3) then
          k0 false
         else
          j0l aP aB λ(h_:Int×Int×List (qS×qL×qL))=>
           j0R h_ w0 λ(r5:Bool)=>
            bif !r5 then
             k0 false
            else
             j1M a8 1 λ(r6:Int)=>
              bif decide (r6<0) then
               k0 false
              else
               bif (r6 != r3) then
                k0 false
               else
                k0 true
noncomputable def j23:Z1e Unit:=λσ k=>rdN σ 92<|rdT σ 2 (pB 2)<|rdT σ 3 (pB 3)<|rdT σ 6 (pB 6)<|rdT σ 7 (pB 7)<|rdT σ 8 (pB 8)<|rdT σ 9 (pB 9)<|rdB σ 2 y0 [.S] λa aP=>rdB σ 3 y22 [.S] λa1 aB=>rdB σ 6 y22 [.O] λa2 w0=>rdB σ 7 y0 [.O] λa3 x0=>rdB σ 8 y22 [.O] λa4 x1=>rdB σ 9 y22 [.O] λa5 g0=>j0z aP aB w0 x0 x1 g0 (λ(t4:Bool)=>k .ret (mkS 92 92 [(4,vB t4)] []))
theorem j6P {W0:Base} {M:Nat->Prop} (hnp:W0.np<=0):Z15 Tryz.prog W0 M (cAt 16383 (bo Tryz.f3)) j23:=j2s follows j00 j1a hnp [j0t,j0T] (oI 4094 1 (j6O) oN) ([],[]) [] ([4],[]) λσ k _ h=>rN h λhn h=>rT h λh2 h=>rT h λh3 h=>rT h λh6 h=>rT h λh7 h=>rT h λh8 h=>rT h λh9 h=>rB h λa aP hb2 h=>rB h λa1 aB hb3 h=>rB h λa2 w0 hb6 h=>rB h λa3 x0 hb7 h=>rB h λa4 x1 hb8 h=>rB h λa5 g0 hb9 h=>⟨_,ZaN (m:=92) hn (sC h2 (sC h3 (sC h6 (sC h7 (sC h8 (sC h9 sN)))))) (bC hb2 (bC hb3 (bC hb6 (bC hb7 (bC hb8 (bC hb9 bN)))))),.trans (by delta j0z j5J j4G j41 j4F j0T;refine gz j3B λ_ e=> ?_;rewrite [<-e];refine gz j1N λ_ e=> ?_;rewrite [<-e];refine gz j0R λ_ e=> ?_;rewrite [<-e];refine gz j1M λ_ e=> ?_;rewrite [<-e];refine gz j0l λ_ e=> ?_;rewrite [<-e];kernel_rfl) h⟩
noncomputable def j0Q (aP:qL) (aB:Int×Int×List (qS×qL×qL)) (k0:Bool->Res):Res:=
 j53 aP 1048576 λ(r:Int)=>
  bif decide (r<0) then
   k0 true
  else
   j3D aB r λ(r1:Int)=>
    bif decide (r1<0) then
     k0 true
    else
     j0k aP aB λ(w:Int×Int×List (qS×qL×qL))=>
      j0D aP λ(r2:qL)=>
       j0e aB λ(r3:Int×Int×List (qS×qL×qL))=>
        j0m r2 r3 λ(r4:Int×Int×List (qS×qL×qL))=>
         j0R r4 w λ(r5:Bool)=>
          bif !r5 then
           k0 false
          else
           j0D aP λ(r6:qL)=>
            j4Z r2 r6 λ(r7:Bool)=>
             bif !r7 then
              k0 false
             else
              j0e aB λ(r8:Int×Int×List (qS×qL×qL))=>
               j0R r3 r8 λ(r9:Bool)=>
                bif !r9 then
                 k0 false
                else
                 j0z aP aB w r2 r3 r4 λ(t:Bool)=>
                  k0 t
noncomputable def j0C:Sig Unit:=⟨[.borrow y0 true,.borrow y22 true],[false],λvals ext k=>av vals y0 λaP vals=>av vals y22 λaB vals=>nl vals<|nl ext<|j0Q aP aB (λ(r0:Bool)=>k [wB r0] [] [])⟩
theorem j7q:Z18 Tryz.prog 3 j0C:=j02 (np:=0) follows j00 j1a [j0t,j0T,j23] (oI 254 0 (j6N) (oI 16383 2 (j6P) oN)) false Tryz.func3 λ_ _ k _ h=>aV h λ_ _ _ _ _ h=>aV h λ_ _ _ _ _ h=>nL h λ_ h=>nL h λ_ h=>by subst_vars;exact .trans (by delta j0Q j6Y j5K j0t j3G j2S j3v j41 j6X j23;refine gz j53 λ_ e=> ?_;rewrite [<-e];refine gz j3D λ_ e=> ?_;rewrite [<-e];refine gz j0k λ_ e=> ?_;rewrite [<-e];refine gz j0D λ_ e=> ?_;rewrite [<-e];refine gz j0e λ_ e=> ?_;rewrite [<-e];refine gz j0m λ_ e=> ?_;rewrite [<-e];refine gz j0R λ_ e=> ?_;rewrite [<-e];refine gz j4Z λ_ e=> ?_;rewrite [<-e];refine gz j0z λ_ e=> ?_;rewrite [<-e];kernel_rfl) h
end Go.PI.G
namespace Go.PI.G
open Go Go.PI
abbrev V:=Int×Int×ByteArray
theorem j7z (s:ByteArray):(Z1o s).length=s.size:=by unfold Z1o;simp
theorem j7I (a b:ByteArray):sEq a b=true↔a=b:=by
 unfold sEq
 rw [beq_iff_eq]
 constructor
 ·intro h
  rw [ByteArray.ext_iff]
  have h1:a.toList=a.data.toList:=by rw [ByteArray.toList_eq]
  have h2:b.toList=b.data.toList:=by rw [ByteArray.toList_eq]
  rw [h1,h2] at h
  exact Array.toList_inj.1 h
 ·rintro rfl;rfl
def jbv (n:Int):Bool:=decide (-1099511627775<=n/\n<=1099511627775)
def j2E (v:V):Bool:=
 bif v.1==0 then (v.2.1==0)&&sEq v.2.2 eS
 else bif v.1==1 then ((v.2.1==0)||(v.2.1==1))&&sEq v.2.2 eS
 else bif v.1==2 then jbv v.2.1&&sEq v.2.2 eS
 else bif v.1==3 then (v.2.1==0)&&decide (nI v.2.2.size<=30)
 else false
theorem jcC (x:Int):decide (0<=x/\x<=1)=((x==0)||(x==1)):=by
 by_cases h:0<=x/\x<=1
 ·rw [decide_eq_true h]
  have:x=0\/x=1:=by omega
  rcases this with rfl | rfl<;>rfl
 ·rw [decide_eq_false h]
  have h1:(x==0)=false:=by simp;omega
  have h2:(x==1)=false:=by simp;omega
  rw [h1,h2];rfl
theorem jcn {v:V} (h:j2E v=true):v=(0,0,eS)\/(∃ n,(n=0\/n=1)/\v=(1,n,eS))\/(∃ n,(-1099511627775<=n/\n<=1099511627775)/\v=(2,n,eS))\/∃ s:ByteArray,s.size<=30/\v=(3,0,s):=by
 obtain ⟨t,n,s⟩:=v
 unfold j2E at h
 simp only at h
 cases h0:t==0
 ·cases h1:t==1
  ·cases h2:t==2
   ·cases h3:t==3
    ·rw [h0,h1,h2,h3] at h;cases h
    ·rw [h0,h1,h2,h3] at h
     simp only [cond_false,cond_true,Bool.and_eq_true,beq_iff_eq,decide_eq_true_eq] at h h3
     obtain ⟨rfl,h⟩:=h
     subst h3
     exact .inr (.inr (.inr ⟨s,by unfold nI at h;omega,rfl⟩))
   ·rw [h0,h1,h2] at h
    simp only [cond_false,cond_true,Bool.and_eq_true,beq_iff_eq] at h h2
    obtain ⟨h,hs⟩:=h
    rw [j7I] at hs
    subst hs;subst h2
    exact .inr (.inr (.inl ⟨n,of_decide_eq_true h,rfl⟩))
  ·rw [h0,h1] at h
   simp only [cond_false,cond_true,Bool.and_eq_true,Bool.or_eq_true,beq_iff_eq] at h h1
   obtain ⟨h,hs⟩:=h
   rw [j7I] at hs
   subst hs;subst h1
   exact .inr (.inl ⟨n,h,rfl⟩)
 ·rw [h0] at h
  simp only [cond_true,Bool.and_eq_true,beq_iff_eq] at h h0
  obtain ⟨h,hs⟩:=h
  rw [j7I] at hs
  subst hs;subst h0;subst h
  exact .inl rfl
def be (n:Nat):Nat->List Int
 | 0=>[]
 | s+1=>((n / 256 ^ s % 256:Nat):Int)::be n s
noncomputable def wB (v:V):List Int:=
 bif v.1==1 then [1,v.2.1]
 else bif v.1==2 then 2::(bif decide (v.2.1<0) then 1 else 0)::be v.2.1.natAbs 6
 else bif v.1==3 then 3::nI v.2.2.size::Z1o v.2.2
 else [0]
end Go.PI.G
set_option linter.unusedSimpArgs false
namespace Go.PI.G
open Go Go.PI Go.Proofs
theorem j3L (x lo hi:Int) (k:Bool->Res):j07 x lo hi k=k (decide (lo<=x/\x<=hi)):=by
 unfold j07
 by_cases h:x>=lo
 ·rw [decide_eq_true h,cond_true]
  congr 1
  exact decide_eq_decide.2 (by omega)
 ·rw [decide_eq_false h,cond_false]
  congr 1
  exact (decide_eq_false (by omega)).symm
end Go.PI.G
namespace Go.PI.G
open Go Go.PI Go.Proofs
theorem jcz (n:Int) (k:Bool->Res):j7x n k=k (jbv n):=j3L n _ _ k
theorem ja4 (v:V) (k:Bool->Res):j44 v k=k (j2E v):=by
 unfold j44 j2E
 cases v.1==0
 ·cases v.1==1
  ·cases v.1==2
   ·cases v.1==3
    ·rfl
    ·cases v.2.1==0<;>rfl
   ·rw [cond_false,cond_false,cond_true,jcz]
    cases jbv v.2.1<;>rfl
  ·cases v.2.1==0
   ·cases v.2.1==1<;>rfl
   ·rfl
 ·cases v.2.1==0<;>rfl
theorem j9N (v:V) (k:Bool->Res):j30 v k=k (j2E v):=by
 unfold j30 j2E
 simp only [j3L,jcC]
 cases v.1==0
 ·cases v.1==1
  ·cases v.1==2
   ·cases v.1==3
    ·rfl
    ·cases v.2.1==0<;>rfl
   ·rw [cond_false,cond_false,cond_true,cond_false,cond_false,cond_true]
    show (bif jbv v.2.1 then _ else _)=_
    cases jbv v.2.1<;>rfl
  ·cases v.2.1==0
   ·cases v.2.1==1<;>rfl
   ·rfl
 ·cases v.2.1==0<;>rfl
end Go.PI.G
namespace Go.PI.G
open Go Go.PI
def msr:(τ:Ty)->El τ->Nat
 | .str,s=>ByteArray.size s
 | .slice e,l=>List.length (α:=El e) l+(List.map (msr e) l).sum
 | .pair a b,x=>msr a x.1+msr b x.2
 | .int _,_=>0
 | .bool,_=>0
 | .unit,_=>0
def wgt:(τ:Ty)->El τ->Nat
 | .str,_=>1
 | .slice e,l=>(List.map (wgt e) l).sum
 | .pair a b,x=>wgt a x.1+wgt b x.2
 | .int _,_=>1
 | .bool,_=>1
 | .unit,_=>0
def j19:(τ:Ty)->El τ->Nat
 | .slice e,l=>(List.map (wgt e) l).sum
 | .pair a b,x=>j19 a x.1+j19 b x.2
 | .str,_=>0
 | .int _,_=>0
 | .bool,_=>0
 | .unit,_=>0
def j28:Ty->Nat
 | .slice e=>j28 e
 | .pair a b=>j28 a+j28 b
 | .unit=>0
 | _=>1
theorem ja5 {α:Type} (f g:α->Nat) (c:Nat) (h:∀ x,f x<=(g x+1) * c):(l:List α)->(l.map f).sum<=(l.length+(l.map g).sum) * c
 | []=>by simp
 | x::l=>by
  have h1:=h x
  have h2:=ja5 f g c h l
  simp only [List.map_cons,List.sum_cons,List.length_cons]
  have:(l.length+1+(g x+(l.map g).sum)) * c=(g x+1) * c+(l.length+(l.map g).sum) * c:=by
   rw [<-Nat.add_mul];congr 1;omega
  omega
theorem ja7:(τ:Ty)->(x:El τ)->wgt τ x<=(msr τ x+1) * j28 τ
 | .str,_=>by simp [wgt,j28]
 | .int _,_=>by simp [wgt,j28]
 | .bool,_=>by simp [wgt,j28]
 | .unit,_=>by simp [wgt]
 | .pair a b,x=>by
  have h1:=ja7 a x.1
  have h2:=ja7 b x.2
  simp only [wgt,msr,j28,Nat.mul_add]
  have e1:(msr a x.1+1) * j28 a<=(msr a x.1+msr b x.2+1) * j28 a:=Nat.mul_le_mul_right _ (by omega)
  have e2:(msr b x.2+1) * j28 b<=(msr a x.1+msr b x.2+1) * j28 b:=Nat.mul_le_mul_right _ (by omega)
  omega
 | .slice e,l=>by
  have h1:=ja5 (wgt e) (msr e) (j28 e) (ja7 e) l
  simp only [wgt,msr,j28]
  have e1:(List.length (α:=El e) l+(List.map (msr e) l).sum) * j28 e<=(List.length (α:=El e) l+(List.map (msr e) l).sum+1) * j28 e:=Nat.mul_le_mul_right _ (by omega)
  exact Nat.le_trans h1 e1
theorem j4q:(τ:Ty)->(x:El τ)->j19 τ x<=wgt τ x
 | .str,_=>Nat.zero_le _
 | .int _,_=>Nat.zero_le _
 | .bool,_=>Nat.zero_le _
 | .unit,_=>Nat.le_refl _
 | .pair a b,x=>Nat.add_le_add (j4q a x.1) (j4q b x.2)
 | .slice e,l=>Nat.le_refl _
theorem j09 {a b:Ty} {x:El (.pair a b)}:msr a x.1<=msr (.pair a b) x:=Nat.le_add_right _ _
theorem j01 {a b:Ty} {x:El (.pair a b)}:msr b x.2<=msr (.pair a b) x:=Nat.le_add_left _ _
noncomputable def dgt (x:Int):ByteArray:=Z3C [wu8 (Z9L (48+x))]
theorem j6G (x:Int):(dgt x).size=1:=rfl
noncomputable def j7V (n:Nat):ByteArray:=if h:n<10 then dgt n else j7V (n / 10)++dgt ((n % 10:Nat):Int)
termination_by n
decreasing_by omega
noncomputable def mT (k:Int):ByteArray:=(⟨#[109]⟩:ByteArray)++j7V k.toNat
noncomputable def mk:(τ:Ty)->El τ->Int->El τ
 | .str,_,k=>mT k
 | .slice e,l,k=>mkL (wgt e) (mk e) l k
 | .pair a b,x,k=>(mk a x.1 k,mk b x.2 (k+(wgt a x.1:Int)))
 | .int .u8,_,k=>wu8 k
 | .int _,_,k=>k
 | .bool,_,k=>(Int.tmod k 3==0)
 | .unit,x,_=>x
noncomputable def mkT:(τ:Ty)->El τ->Int->El τ
 | .slice e,l,k=>mkL (wgt e) (mk e) l k
 | .pair a b,x,k=>(mkT a x.1 k,mkT b x.2 (k+(j19 a x.1:Int)))
 | .str,x,_=>x
 | .int _,x,_=>x
 | .bool,x,_=>x
 | .unit,x,_=>x
theorem j8A (e:Ty) (l:List (El e)):msr (.slice e) l=l.length+(l.map (msr e)).sum:=rfl
theorem j0g {e:Ty} {l:List (El e)} {n:Nat} (h:msr (.slice e) l<=n):l.length<=n:=by
 have:msr (.slice e) l=l.length+(l.map (msr e)).sum:=rfl
 omega
theorem j0h {e:Ty} {l:List (El e)} {n:Nat} (h:msr (.slice e) l<=n) {x:El e} (hx:x∈l):msr e x<=n:=by
 have h1:msr (.slice e) l=l.length+(l.map (msr e)).sum:=rfl
 have:=Z9I (msr e) l x hx
 omega
theorem j8W {τ:Ty} {x:El τ} (hw:j28 τ<=200) (h:msr τ x<=1048576):wgt τ x<=209715400:=by
 have h1:=ja7 τ x
 have h2:(msr τ x+1) * j28 τ<=1048577 * 200:=Nat.mul_le_mul (by omega) hw
 omega
theorem j1v (a b:Ty) (x:El (.pair a b)):wgt (.pair a b) x=wgt a x.1+wgt b x.2:=rfl
theorem j2j (k:IntKind) (x:El (.int k)):wgt (.int k) x=1:=rfl
theorem j1u (x:El .bool):wgt .bool x=1:=rfl
theorem j2k (x:El .str):wgt .str x=1:=rfl
theorem j2h (a b:Ty) (x:El (.pair a b)) (k:Int):mk (.pair a b) x k=(mk a x.1 k,mk b x.2 (k+(wgt a x.1:Int))):=rfl
theorem j1p (e:Ty) (l:El (.slice e)) (k:Int):mk (.slice e) l k=mkL (wgt e) (mk e) l k:=rfl
theorem j3d (x:El (.int .i64)) (k:Int):mk (.int .i64) x k=k:=rfl
theorem j4r (x:El (.int .u8)) (k:Int):mk (.int .u8) x k=wu8 k:=rfl
theorem j2g (x:El .bool) (k:Int):mk .bool x k=(Int.tmod k 3==0):=rfl
theorem j3e (x:El .str) (k:Int):mk .str x k=mT k:=rfl
theorem j5H (a b:Ty) (x:El (.pair a b)) (k:Int):mkT (.pair a b) x k=(mkT a x.1 k,mkT b x.2 (k+(j19 a x.1:Int))):=rfl
theorem j5X (e:Ty) (l:El (.slice e)) (k:Int):mkT (.slice e) l k=mkL (wgt e) (mk e) l k:=rfl
theorem j7G (i:IntKind) (x:El (.int i)) (k:Int):mkT (.int i) x k=x:=rfl
theorem j6M (x:El .bool) (k:Int):mkT .bool x k=x:=rfl
theorem j7H (x:El .str) (k:Int):mkT .str x k=x:=rfl
theorem j11 (a b:Ty) (x:El (.pair a b)):j19 (.pair a b) x=j19 a x.1+j19 b x.2:=rfl
theorem j21 (i:IntKind) (x:El (.int i)):j19 (.int i) x=0:=rfl
theorem j1k (x:El .bool):j19 .bool x=0:=rfl
theorem j22 (x:El .str):j19 .str x=0:=rfl
theorem j8X {α:Type} (z:α) (l:List α) (i:Nat) (v:α) (h:i<l.length):nth z (upd l (i:Int) v) (i:Int)=v:=by
 rw [ZaG,Zaz _ _ _ (by simpa using h)];simp
theorem j8Z {α:Type} (l:List α) (i:Int) (u v:α):upd (upd l i u) i v=upd l i v:=by
 unfold upd;simp
theorem j8Y {α:Type} (l:List α) (i:Int) (v:α):(upd l i v).length=l.length:=by unfold upd;simp
end Go.PI.G
namespace Go.PI.G
open Go Go.PI
theorem jd3 {left:Int} (h:0<=left):szR left 0=left:=by unfold szR;rw [if_pos (by omega)];omega
theorem ja6 {left:Int} {n rest:Nat} {F:Int->Res} {k:Int->Res} (h0:0<=left) (h1:left<=1048576) (hn:n<=maxLen) (hF:(n:Int)<=left->F (left-n)=k (szR (left-n) rest)) :
  (bif decide (Z9L (left-nI n)<0) then k (-1) else F (Z9L (left-nI n)))=k (szR left (n+rest)):=by
 unfold maxLen at hn
 rw [ZaI (by unfold nI;omega) (by unfold nI;omega)]
 unfold nI
 by_cases h:(n:Int)<=left
 ·rw [Za5 (by omega),cond_false,hF h,Zal h]
 ·rw [Za6 (by omega),cond_true,Zam h]
theorem j60 {left:Int} {k:Int->Res} (h0:0<=left):k left=k (szR left 0):=by rw [jd3 h0]
theorem j04 {i n:Nat} (h:i<n):inb (i:Int) n=true:=ZaL (by omega) (by omega)
theorem j03 {n:Int} (h: -9223372036854775808<=n/\n<9223372036854775808):Z9L n=n:=ZaI h.1 h.2
theorem jd6 (n:Nat):Int.tdiv (n:Int) 10=((n / 10:Nat):Int):=by
 rw [Int.tdiv_eq_ediv_of_nonneg (by omega)];omega
theorem jd7 (n:Nat):Int.tmod (n:Int) 10=((n % 10:Nat):Int):=by
 rw [Int.tmod_eq_emod_of_nonneg (by omega)];omega
theorem jap {n:Nat} (h:n<10):j7V n=dgt n:=by rw [j7V,dif_pos h]
theorem jbS {n:Nat} (h:¬ n<10):j7V n=j7V (n / 10)++dgt ((n % 10:Nat):Int):=by rw [j7V,dif_neg h]
theorem jaC:∀ (d n:Nat),n<10 ^ (d+1)->(j7V n).size<=d+1
 | 0,n,h=>by rw [jap (by omega),j6G];exact Nat.le_refl _
 | d+1,n,h=>by
  by_cases h1:n<10
  ·rw [jap h1,j6G];omega
  ·rw [jbS h1,ByteArray.size_append,j6G]
   have:n / 10<10 ^ (d+1):=Nat.div_lt_of_lt_mul (by rw [Nat.pow_succ] at h;omega)
   have:=jaC d (n / 10) this
   omega
theorem jdi (s:ByteArray):s++eS=s:=by
 show s++ByteArray.empty=s
 simp
end Go.PI.G
namespace Go.PI.G
open Go Go.PI
abbrev C:=ByteArray×Int×Bool×Bool×V
abbrev T:=ByteArray×List C×List ByteArray
abbrev yV:Ty:= .pair (.int .i64) (.pair (.int .i64) .str)
abbrev yC:Ty:= .pair .str (.pair (.int .i64) (.pair .bool (.pair .bool yV)))
abbrev zC:C:=(eS,0,false,false,0,0,eS)
abbrev zT:T:=(eS,[],[])
theorem jc0 {α:Type} (p:α->Bool) (l:List α): -1<=Z9G p l/\Z9G p l<(l.length:Int):=by
 unfold Z9G
 cases h:l.findIdx? p with
 | none=>simp only [];omega
 | some i=>
  have:=(List.findIdx?_eq_some_iff_findIdx_eq.1 h).1
  simp only [];omega
noncomputable def j0a (s:ByteArray):Bool:= !((Z1o s).any λb=>decide (b<97)||decide (b>122))&&(decide (1<=s.size)&&decide (s.size<=8))
def j9O (v:V):Bool:=(v.1==0)&&((v.2.1==0)&&sEq v.2.2 eS)
noncomputable def j47 (c:C):Bool:=j0a c.1&&(decide (1<=c.2.1/\c.2.1<=3)&&(j2E c.2.2.2.2&&(bif c.2.2.2.1 then (c.2.2.2.2.1==c.2.1)||((c.2.2.2.2.1==0)&& !c.2.2.1) else j9O c.2.2.2.2)))
def j0p (l:List C) (n:ByteArray):Int:=Z9G (λc=>sEq c.1 n) l
theorem j5T (l:List C) (n:ByteArray): -1<=j0p l n/\j0p l n<(l.length:Int):=jc0 _ _
theorem jcL:j2E (0,0,eS)=true:=by
 show (((0:Int)==0)&&sEq eS eS)=true
 rw [Zai];rfl
theorem jcb:j9O (0,0,eS)=true:=by
 show (((0:Int)==0)&&(((0:Int)==0)&&sEq eS eS))=true
 rw [Zai];rfl
def j4W (l:List C):Int->List ByteArray->Bool
 | _,[]=>true
 | last,k::ks=> !decide (j0p l k<=last)&&((nth zC l (j0p l k)).2.2.1&&j4W l (j0p l k) ks)
noncomputable def j7T (l:List C):Bool:= !Z72 (λi c=> !j47 c||(j0p l c.1 != (i:Int))) 0 l
noncomputable def jaB (t:T):Bool:=(j0a t.1&&(decide (1<=t.2.1.length)&&(decide (t.2.1.length<=8)&&decide (1<=t.2.2.length))))&&(j7T t.2.1&&j4W t.2.1 (-1) t.2.2)
end Go.PI.G
namespace Go.PI.G
open Go Go.PI Go.Proofs
theorem jcr (s:ByteArray) (i:Nat) (h:i<(Z1o s).length):bt s (i:Int)=(Z1o s)[i]:=by
 have hl:=j7z s
 have h':i<s.data.size:=by
  have:i<s.size:=by omega
  exact this
 have e1:(Z1o s)[i]=((s.data.toList.map λb:UInt8=>(b.toNat:Int))[i]'(by simpa using h')):=rfl
 rw [e1,List.getElem_map]
 unfold bt
 simp [Array.getElem?_eq_getElem h']
theorem jdb (s:ByteArray) (x:Bool) (k:Bool->Res):(bif x then k false else (bif decide ((nI (ByteArray.size s))>=1) then k (decide ((nI (ByteArray.size s))<=8)) else k false))=k (!x&&(decide (1<=s.size)&&decide (s.size<=8))):=by
 cases x
 ·unfold nI
  by_cases h1:1<=s.size
  ·rw [cond_false,decide_eq_true (show (s.size:Int)>=1 by omega),cond_true,decide_eq_true h1]
   congr 1
   by_cases h2:s.size<=8
   ·rw [decide_eq_true (show (s.size:Int)<=8 by omega),decide_eq_true h2];rfl
   ·rw [decide_eq_false (show ¬ (s.size:Int)<=8 by omega),decide_eq_false h2];rfl
  ·rw [cond_false,decide_eq_false (show ¬ (s.size:Int)>=1 by omega),cond_false,decide_eq_false h1];rfl
 ·rfl
theorem j1e (s:ByteArray) (h:s.size<=LIM) (k:Bool->Res):j0d s k=k (j0a s):=by
 unfold j0d j5Q
 have hl:=j7z s
 have:=Za3 (Z1o s) (λi=>i) (λb=>decide (b<97)||decide (b>122)) (step:=j4J s) ((λ(_:Unit)=>bif decide ((nI (ByteArray.size s))>=1) then k (decide ((nI (ByteArray.size s))<=8)) else k false),(λ(_:Unit)=>k false)) (bif decide ((nI (ByteArray.size s))>=1) then k (decide ((nI (ByteArray.size s))<=8)) else k false) (k false) (by omega) (λi rec hi=>by
  show j1Z s _ _ _ _=_
  unfold j1Z
  unfold LIM at h
  have hi':i<s.size:=by omega
  rw [ZaR hi',cond_true,j04 hi',cond_true,cond_true,jcr s i hi,j03 (n:=(i:Int)+1) (by omega)]
  cases decide ((Z1o s)[i]<97)
  ·cases decide ((Z1o s)[i]>122)<;>rfl
  ·rfl) (λrec=>by
  show j1Z s _ _ _ _=_
  unfold j1Z
  rw [hl,ZaQ,cond_false])
 refine this.trans ?_
 exact jdb s _ k
theorem j1b (s:ByteArray) (h:s.size<=LIM) (k:Bool->Res):j0c s k=k (j0a s):=by
 unfold j0c j3R
 have hl:=j7z s
 have:=Za3 (Z1o s) (λi=>i) (λb=>decide (b<97)||decide (b>122)) (step:=j4w s) ((λ(_:Unit)=>j07 (nI (ByteArray.size s)) 1 8 λ(r:Bool)=>k r),(λ(_:Unit)=>k false)) (j07 (nI (ByteArray.size s)) 1 8 λ(r:Bool)=>k r) (k false) (by omega) (λi rec hi=>by
  show j1O s _ _ _ _=_
  unfold j1O
  unfold LIM at h
  have hi':i<s.size:=by omega
  rw [ZaR hi',cond_true,j04 hi',cond_true,cond_true,jcr s i hi,j03 (n:=(i:Int)+1) (by omega)]
  cases decide ((Z1o s)[i]<97)
  ·cases decide ((Z1o s)[i]>122)<;>rfl
  ·rfl) (λrec=>by
  show j1O s _ _ _ _=_
  unfold j1O
  rw [hl,ZaQ,cond_false])
 refine this.trans ?_
 rw [j3L]
 have hd:decide (1<=nI s.size/\nI s.size<=8)=(decide (1<=s.size)&&decide (s.size<=8)):=by
  rw [<-Bool.decide_and]
  exact decide_eq_decide.2 (by unfold nI;omega)
 rw [hd]
 unfold j0a
 cases (Z1o s).any λb=>decide (b<97)||decide (b>122)<;>rfl
end Go.PI.G
