/-
  Program's code interpreted over typed values; printed texts; plain laws. No conditions.
-/
import Derived.Test.YtppeoiidhmegkaaGreatBa
import Derived.Test.YtppeoiidhmegkaaGreatBc
set_option linter.unusedVariables false
set_option maxRecDepth 100000
namespace Go.PI.G
open Go Go.PI Go.Proofs
open Go.Code (pl pr)
noncomputable def j2m (a:List qW) (left:Int) (i:Int) (rec:Int->Int->Res) (k0:Int->Res) (k1:Unit->Res):Res:=
 bif decide (i<(nI (List.length a))) then
  bif inb i (List.length a) then
   j8k (nth [] a i) left λ(r:Int)=>
    bif decide (r<0) then
     k1 ()
    else
     rec r (Z8o (i+1))
  else none
 else
  k0 left
noncomputable def j8N (a:List qW):(Int×Int)->(Int×Int->Res)->((Int->Res)×(Unit->Res))->Res:=λv rec q=>j2m a v.1 v.2 (λleft i=>rec (left,i)) q.1 q.2
noncomputable def j4I (a:List qW) (n:Nat) (left:Int) (i:Int) (k0:Int->Res) (k1:Unit->Res):Res:=Z14 (j8N a) n (left,i) (k0,k1)
noncomputable def j9E:Z1q Unit:=λσ k=>rdN σ 27<|rd1 σ 0 y24 .S λa=>rdI σ 1 λleft=>rdI σ 5 λi=>j4I a Z12 left i (λ(left1:Int)=>k (.exit 0) (mkS 27 27 [(1,vI left1)] [])) (λ(_:Unit)=>k .ret (mkS 27 27 [(4,vI (-1))] []))
theorem jdd {W0:Base} {M:Nat->Prop} (hnp:W0.np<=0):Z22 Tryz.prog W0 M (cAt 122 (bo Tryz.f271)) j9E:=j0a follows j01 (Z8K jbd Z94) hnp [] oN [0,1,5] [] ([],[]) [(0,[1],[])] ([4],[]) λσ k _ h=>rN h λhn h=>rV h λa h0 h=>rV h λleft h1 h=>rV h λi h5 h=>⟨_,Z9m (m:=27) hn (sC h0 (sC h1 (sC h5 sN))) bN,.trans (Z88 (λv:Int×Int=>(mkS 27 27 [(0,v1 y24 a .S),(1,vI v.1),(5,vI v.2)] [])) (j8N a) (λ(k:Z6O Unit)=>(((λ(left1:Int)=>k (.exit 0) (mkS 27 27 [(1,vI left1)] [])),(λ(_:Unit)=>k .ret (mkS 27 27 [(4,vI (-1))] []))):(Int->Res)×(Unit->Res))) (λv rec k=>by kernel_rfl) Z12 (left,i) k) h⟩
noncomputable def j7n (a:List qW) (left:Int) (k0:Int->Res):Res:=
 bif decide ((Z8o (left-(nI (List.length a))))<0) then
  k0 (-1)
 else
  j4I a Z12 (Z8o (left-(nI (List.length a)))) 0
   (λ(left1:Int)=>
    k0 left1)
   (λ(_:Unit)=>
    k0 (-1))
noncomputable def jeO:Sig Unit:=⟨[.look y24 false,.look tI false],[false],λvals ext k=>av vals y24 λa vals=>av vals tI λleft vals=>nl vals<|nl ext<|j7n a left (λ(r0:Int)=>k [wI r0] [] [])⟩
theorem jeq:Z1p Tryz.prog 271 jeO:=j02 (np:=0) follows j01 (Z8K jbd Z94) [j9E] (oI 122 0 (jdd) oN) false Tryz.func271 λ_ _ k _ h=>aV h λ_ _ _ _ _ h=>aV h λ_ _ _ _ _ h=>nL h λ_ h=>nL h λ_ h=>by subst_vars;exact .trans (by kernel_rfl) h
noncomputable def j2p (a:List qW) (out:List qW) (i:Int) (rec:qR->Int->Res) (k0:qR->Res):Res:=
 bif decide (i<(nI (List.length a))) then
  bif inb i (List.length a) then
   j8m (nth [] a i) λ(r:List qV)=>
    bif inb i (List.length out) then
     rec (upd out i r) (Z8o (i+1))
    else none
  else none
 else
  k0 out
noncomputable def j5P (a:List qW):(qR×Int)->(qR×Int->Res)->((qR->Res))->Res:=λv rec q=>j2p a v.1 v.2 (λout i=>rec (out,i)) q
noncomputable def ja6 (a:List qW) (n:Nat) (out:List qW) (i:Int) (k0:qR->Res):Res:=Z14 (j5P a) n (out,i) (k0)
noncomputable def j9H:Z1q Unit:=λσ k=>rdN σ 23<|rd1 σ 0 y24 .S λa=>rd1 σ 3 y24 .O λout=>rdI σ 4 λi=>ja6 a Z12 out i (λ(out1:List qW)=>k (.exit 0) (mkS 23 23 [(3,v1 y24 out1 .O)] []))
theorem jdg {W0:Base} {M:Nat->Prop} (hnp:W0.np<=0):Z22 Tryz.prog W0 M (cAt 58 (bo Tryz.f276)) j9H:=j0a follows j01 (Z8K jbf Z94) hnp [] oN [0,3,4] [] ([],[]) [(0,[3],[])] ([],[]) λσ k _ h=>rN h λhn h=>rV h λa h0 h=>rV h λout h3 h=>rV h λi h4 h=>⟨_,Z9m (m:=23) hn (sC h0 (sC h3 (sC h4 sN))) bN,.trans (Z88 (λv:qR×Int=>(mkS 23 23 [(0,v1 y24 a .S),(3,v1 y24 v.1 .O),(4,vI v.2)] [])) (j5P a) (λ(k:Z6O Unit)=>(((λ(out1:List qW)=>k (.exit 0) (mkS 23 23 [(3,v1 y24 out1 .O)] []))):(qR->Res))) (λv rec k=>by kernel_rfl) Z12 (out,i) k) h⟩
noncomputable def j7q (a:List qW) (k0:qR->Res):Res:=
 bif Z8m (nI (List.length a)) (nI (List.length a)) then
  ja6 a Z12 (Z7Y (nI (List.length a)) []) 0 λ(out:List qW)=>
   k0 out
 else none
noncomputable def jeR:Sig Unit:=⟨[.borrow y24 false],[false],λvals ext k=>av vals y24 λa vals=>nl vals<|nl ext<|j7q a (λ(r0:List qW)=>k [w1 y24 r0 .O] [] [])⟩
theorem jet:Z1p Tryz.prog 276 jeR:=j02 (np:=0) follows j01 (Z8K jbf Z94) [j9H] (oI 58 0 (jdg) oN) false Tryz.func276 λ_ _ k _ h=>aV h λ_ _ _ _ _ h=>nL h λ_ h=>nL h λ_ h=>by subst_vars;exact .trans (by kernel_rfl) h
noncomputable def j28 (a:List qW) (b:List qW) (i:Int) (rec:Int->Res) (k0:Unit->Res) (k1:Unit->Res):Res:=
 bif decide (i<(nI (List.length a))) then
  bif inb i (List.length a) then
   bif inb i (List.length b) then
    j4C (nth [] a i) (nth [] b i) λ(r:Bool)=>
     bif !r then
      k1 ()
     else
      rec (Z8o (i+1))
   else none
  else none
 else
  k0 ()
noncomputable def j8K (a:List qW) (b:List qW):Int->(Int->Res)->((Unit->Res)×(Unit->Res))->Res:=λv rec q=>j28 a b v (λi=>rec (i)) q.1 q.2
noncomputable def j75 (a:List qW) (b:List qW) (n:Nat) (i:Int) (k0:Unit->Res) (k1:Unit->Res):Res:=Z14 (j8K a b) n (i) (k0,k1)
noncomputable def j9B:Z1q Unit:=λσ k=>rdN σ 27<|rd1 σ 0 y24 .S λa=>rd1 σ 1 y24 .S λb=>rdI σ 5 λi=>j75 a b Z12 i (λ(_:Unit)=>k (.exit 0) (mkS 27 27 [] [])) (λ(_:Unit)=>k .ret (mkS 27 27 [(4,vB false)] []))
theorem jda {W0:Base} {M:Nat->Prop} (hnp:W0.np<=0):Z22 Tryz.prog W0 M (cAt 58 (bo Tryz.f281)) j9B:=j0a follows j01 (Z8K j8v Z94) hnp [] oN [0,1,5] [] ([],[]) [(0,[],[])] ([4],[]) λσ k _ h=>rN h λhn h=>rV h λa h0 h=>rV h λb h1 h=>rV h λi h5 h=>⟨_,Z9m (m:=27) hn (sC h0 (sC h1 (sC h5 sN))) bN,.trans (Z88 (λv:Int=>(mkS 27 27 [(0,v1 y24 a .S),(1,v1 y24 b .S),(5,vI v)] [])) (j8K a b) (λ(k:Z6O Unit)=>(((λ(_:Unit)=>k (.exit 0) (mkS 27 27 [] [])),(λ(_:Unit)=>k .ret (mkS 27 27 [(4,vB false)] []))):(Unit->Res)×(Unit->Res))) (λv rec k=>by kernel_rfl) Z12 (i) k) h⟩
noncomputable def j7l (a:List qW) (b:List qW) (k0:Bool->Res):Res:=
 bif ((nI (List.length a)) != (nI (List.length b))) then
  k0 false
 else
  j75 a b Z12 0
   (λ(_:Unit)=>
    k0 true)
   (λ(_:Unit)=>
    k0 false)
noncomputable def jeK:Sig Unit:=⟨[.look y24 false,.look y24 false],[false],λvals ext k=>av vals y24 λa vals=>av vals y24 λb vals=>nl vals<|nl ext<|j7l a b (λ(r0:Bool)=>k [wB r0] [] [])⟩
theorem jem:Z1p Tryz.prog 281 jeK:=j02 (np:=0) follows j01 (Z8K j8v Z94) [j9B] (oI 58 0 (jda) oN) false Tryz.func281 λ_ _ k _ h=>aV h λ_ _ _ _ _ h=>aV h λ_ _ _ _ _ h=>nL h λ_ h=>nL h λ_ h=>by subst_vars;exact .trans (by kernel_rfl) h
noncomputable def j1u (a:List qW) (k_:Int) (i:Int) (rec:qR->Int->Int->Res) (k0:qR->Int->Res):Res:=
 bif decide (i<(nI (List.length a))) then
  bif inb i (List.length a) then
   j1C (nth [] a i) k_ λ(r:Int) (a1:List qV)=>
    rec (upd a i a1) r (Z8o (i+1))
  else none
 else
  k0 a k_
noncomputable def j4c:(qR×Int×Int)->(qR×Int×Int->Res)->((qR->Int->Res))->Res:=λv rec q=>j1u v.1 v.2.1 v.2.2 (λa k_ i=>rec (a,k_,i)) q
noncomputable def j5L (n:Nat) (a:List qW) (k_:Int) (i:Int) (k0:qR->Int->Res):Res:=Z14 (j4c) n (a,k_,i) (k0)
noncomputable def j8a:Z1q Unit:=λσ k=>rdN σ 20<|rd1 σ 0 y24 .O λa=>rdI σ 1 λk_=>rdI σ 5 λi=>j5L Z12 a k_ i (λ(a2:List qW) (k_1:Int)=>k (.exit 0) (mkS 20 20 [(0,v1 y24 a2 .O),(1,vI k_1)] []))
theorem jc6 {W0:Base} {M:Nat->Prop} (hnp:W0.np<=1):Z22 Tryz.prog W0 M (cAt 26 (bo Tryz.f226)) j8a:=j0a follows j01 (Z8K j64 Z94) hnp [] oN [0,1,5] [] ([],[]) [(0,[0,1],[])] ([],[]) λσ k _ h=>rN h λhn h=>rV h λa h0 h=>rV h λk_ h1 h=>rV h λi h5 h=>⟨_,Z9m (m:=20) hn (sC h0 (sC h1 (sC h5 sN))) bN,.trans (Z88 (λv:qR×Int×Int=>(mkS 20 20 [(0,v1 y24 v.1 .O),(1,vI v.2.1),(5,vI v.2.2)] [])) (j4c) (λ(k:Z6O Unit)=>(((λ(a2:List qW) (k_1:Int)=>k (.exit 0) (mkS 20 20 [(0,v1 y24 a2 .O),(1,vI k_1)] []))):(qR->Int->Res))) (λv rec k=>by kernel_rfl) Z12 (a,k_,i) k) h⟩
noncomputable def j5p (a:List qW) (k_:Int) (k0:Int->qR->Res):Res:=
 j5L Z12 a k_ 0 λ(a1:List qW) (k_1:Int)=>
  k0 k_1 a1
noncomputable def jdo:Sig Unit:=⟨[.inout y24 false,.borrow tI false],[false],λvals ext k=>ao vals y24 [.O] λa vals=>av vals tI λk_ vals=>nl vals<|nl ext<|j5p a k_ (λ(r0:Int) (i0:List qW)=>k [wI r0] [w1 y24 i0 .O] [])⟩
theorem j9q:Z1p Tryz.prog 226 jdo:=j02 (np:=1) follows j01 (Z8K j64 Z94) [j8a] (oI 26 0 (jc6) oN) false Tryz.func226 λ_ _ k _ h=>aO h λ_ _ _ _ h=>aV h λ_ _ _ _ _ h=>nL h λ_ h=>nL h λ_ h=>by subst_vars;exact .trans (by kernel_rfl) h
noncomputable def j1r (a:List qW) (k_:Int) (i:Int) (rec:Int->Int->Res) (k0:Int->Res) (k1:Unit->Res):Res:=
 bif decide (i<(nI (List.length a))) then
  bif inb i (List.length a) then
   j1B (nth [] a i) k_ λ(r:Int)=>
    bif decide (r<0) then
     k1 ()
    else
     rec r (Z8o (i+1))
  else none
 else
  k0 k_
noncomputable def j46 (a:List qW):(Int×Int)->(Int×Int->Res)->((Int->Res)×(Unit->Res))->Res:=λv rec q=>j1r a v.1 v.2 (λk_ i=>rec (k_,i)) q.1 q.2
noncomputable def j5G (a:List qW) (n:Nat) (k_:Int) (i:Int) (k0:Int->Res) (k1:Unit->Res):Res:=Z14 (j46 a) n (k_,i) (k0,k1)
noncomputable def j85:Z1q Unit:=λσ k=>rdN σ 22<|rd1 σ 0 y24 .S λa=>rdI σ 1 λk_=>rdI σ 5 λi=>j5G a Z12 k_ i (λ(k_1:Int)=>k (.exit 0) (mkS 22 22 [(1,vI k_1)] [])) (λ(_:Unit)=>k .ret (mkS 22 22 [(4,vI (-1))] []))
theorem jbR {W0:Base} {M:Nat->Prop} (hnp:W0.np<=0):Z22 Tryz.prog W0 M (cAt 26 (bo Tryz.f335)) j85:=j0a follows j01 (Z8K j63 Z94) hnp [] oN [0,1,5] [] ([],[]) [(0,[1],[])] ([4],[]) λσ k _ h=>rN h λhn h=>rV h λa h0 h=>rV h λk_ h1 h=>rV h λi h5 h=>⟨_,Z9m (m:=22) hn (sC h0 (sC h1 (sC h5 sN))) bN,.trans (Z88 (λv:Int×Int=>(mkS 22 22 [(0,v1 y24 a .S),(1,vI v.1),(5,vI v.2)] [])) (j46 a) (λ(k:Z6O Unit)=>(((λ(k_1:Int)=>k (.exit 0) (mkS 22 22 [(1,vI k_1)] [])),(λ(_:Unit)=>k .ret (mkS 22 22 [(4,vI (-1))] []))):(Int->Res)×(Unit->Res))) (λv rec k=>by kernel_rfl) Z12 (k_,i) k) h⟩
noncomputable def j5o (a:List qW) (k_:Int) (k0:Int->Res):Res:=
 j5G a Z12 k_ 0
  (λ(k_1:Int)=>
   k0 k_1)
  (λ(_:Unit)=>
   k0 (-1))
noncomputable def jdn:Sig Unit:=⟨[.look y24 false,.look tI false],[false],λvals ext k=>av vals y24 λa vals=>av vals tI λk_ vals=>nl vals<|nl ext<|j5o a k_ (λ(r0:Int)=>k [wI r0] [] [])⟩
theorem j9o:Z1p Tryz.prog 335 jdn:=j02 (np:=0) follows j01 (Z8K j63 Z94) [j85] (oI 26 0 (jbR) oN) false Tryz.func335 λ_ _ k _ h=>aV h λ_ _ _ _ _ h=>aV h λ_ _ _ _ _ h=>nL h λ_ h=>nL h λ_ h=>by subst_vars;exact .trans (by kernel_rfl) h
end Go.PI.G
namespace Go.PI.G
open Go Go.PI Go.Proofs
open Go.Code (pl pr)
noncomputable def j7o (a:List qW) (left:Int) (k0:Int->Res):Res:=
 j7n a left λ(r:Int)=>
  bif decide (r<0) then
   k0 (-1)
  else
   k0 r
noncomputable def jeP:Sig Unit:=⟨[.look y24 true,.look tI false],[false],λvals ext k=>av vals y24 λa vals=>av vals tI λleft vals=>nl vals<|nl ext<|j7o a left (λ(r0:Int)=>k [wI r0] [] [])⟩
theorem jaP:Z1p Tryz.prog 215 jeP:=j02 (np:=0) follows j01 (Z8K jeq Z94) [] oN false Tryz.func215 λ_ _ k _ h=>aV h λ_ _ _ _ _ h=>aV h λ_ _ _ _ _ h=>nL h λ_ h=>nL h λ_ h=>by subst_vars;exact .trans (by kernel_rfl) h
noncomputable def j7r (a:List qW) (k0:qR->Res):Res:=
 j7q a λ(r:List qW)=>
  k0 r
noncomputable def jeS:Sig Unit:=⟨[.borrow y24 true],[true],λvals ext k=>av vals y24 λa vals=>nl vals<|nl ext<|j7r a (λ(r0:List qW)=>k [⟨y24,true,r0,[.O]⟩] [] [])⟩
theorem jaQ:Z1p Tryz.prog 219 jeS:=j02 (np:=0) follows j01 (Z8K jet Z94) [] oN false Tryz.func219 λ_ _ k _ h=>aV h λ_ _ _ _ _ h=>nL h λ_ h=>nL h λ_ h=>by subst_vars;exact .trans (by kernel_rfl) h
noncomputable def j7m (a:List qW) (b:List qW) (k0:Bool->Res):Res:=
 j7l a b λ(r:Bool)=>
  bif !r then
   k0 false
  else
   k0 true
noncomputable def jeL:Sig Unit:=⟨[.look y24 true,.look y24 true],[false],λvals ext k=>av vals y24 λa vals=>av vals y24 λb vals=>nl vals<|nl ext<|j7m a b (λ(r0:Bool)=>k [wB r0] [] [])⟩
theorem jaM:Z1p Tryz.prog 224 jeL:=j02 (np:=0) follows j01 (Z8K jem Z94) [] oN false Tryz.func224 λ_ _ k _ h=>aV h λ_ _ _ _ _ h=>aV h λ_ _ _ _ _ h=>nL h λ_ h=>nL h λ_ h=>by subst_vars;exact .trans (by kernel_rfl) h
end Go.PI.G
namespace Go.PI.G
open Go Go.PI Go.Proofs
open Go.Code (pl pr)
noncomputable def j1K (a:List qR) (left:Int) (i:Int) (rec:Int->Int->Res) (k0:Int->Res) (k1:Unit->Res):Res:=
 bif decide (i<(nI (List.length a))) then
  bif inb i (List.length a) then
   j7o (nth [] a i) left λ(r:Int)=>
    bif decide (r<0) then
     k1 ()
    else
     rec r (Z8o (i+1))
  else none
 else
  k0 left
noncomputable def j7Y (a:List qR):(Int×Int)->(Int×Int->Res)->((Int->Res)×(Unit->Res))->Res:=λv rec q=>j1K a v.1 v.2 (λleft i=>rec (left,i)) q.1 q.2
noncomputable def j3N (a:List qR) (n:Nat) (left:Int) (i:Int) (k0:Int->Res) (k1:Unit->Res):Res:=Z14 (j7Y a) n (left,i) (k0,k1)
noncomputable def j9g:Z1q Unit:=λσ k=>rdN σ 27<|rd1 σ 0 y25 .S λa=>rdI σ 1 λleft=>rdI σ 5 λi=>j3N a Z12 left i (λ(left1:Int)=>k (.exit 0) (mkS 27 27 [(1,vI left1)] [])) (λ(_:Unit)=>k .ret (mkS 27 27 [(4,vI (-1))] []))
theorem jcB {W0:Base} {M:Nat->Prop} (hnp:W0.np<=0):Z22 Tryz.prog W0 M (cAt 122 (bo Tryz.f137)) j9g:=j0a follows j01 (Z8K jaP Z94) hnp [] oN [0,1,5] [] ([],[]) [(0,[1],[])] ([4],[]) λσ k _ h=>rN h λhn h=>rV h λa h0 h=>rV h λleft h1 h=>rV h λi h5 h=>⟨_,Z9m (m:=27) hn (sC h0 (sC h1 (sC h5 sN))) bN,.trans (Z88 (λv:Int×Int=>(mkS 27 27 [(0,v1 y25 a .S),(1,vI v.1),(5,vI v.2)] [])) (j7Y a) (λ(k:Z6O Unit)=>(((λ(left1:Int)=>k (.exit 0) (mkS 27 27 [(1,vI left1)] [])),(λ(_:Unit)=>k .ret (mkS 27 27 [(4,vI (-1))] []))):(Int->Res)×(Unit->Res))) (λv rec k=>by kernel_rfl) Z12 (left,i) k) h⟩
noncomputable def j4f (a:List qR) (left:Int) (k0:Int->Res):Res:=
 bif decide ((Z8o (left-(nI (List.length a))))<0) then
  k0 (-1)
 else
  j3N a Z12 (Z8o (left-(nI (List.length a)))) 0
   (λ(left1:Int)=>
    k0 left1)
   (λ(_:Unit)=>
    k0 (-1))
noncomputable def jaj:Sig Unit:=⟨[.look y25 false,.look tI false],[false],λvals ext k=>av vals y25 λa vals=>av vals tI λleft vals=>nl vals<|nl ext<|j4f a left (λ(r0:Int)=>k [wI r0] [] [])⟩
theorem jdK:Z1p Tryz.prog 137 jaj:=j02 (np:=0) follows j01 (Z8K jaP Z94) [j9g] (oI 122 0 (jcB) oN) false Tryz.func137 λ_ _ k _ h=>aV h λ_ _ _ _ _ h=>aV h λ_ _ _ _ _ h=>nL h λ_ h=>nL h λ_ h=>by subst_vars;exact .trans (by kernel_rfl) h
noncomputable def j1L (a:List qR) (out:List qR) (i:Int) (rec:qX->Int->Res) (k0:qX->Res):Res:=
 bif decide (i<(nI (List.length a))) then
  bif inb i (List.length a) then
   j7r (nth [] a i) λ(r:List qW)=>
    bif inb i (List.length out) then
     rec (upd out i r) (Z8o (i+1))
    else none
  else none
 else
  k0 out
noncomputable def j50 (a:List qR):(qX×Int)->(qX×Int->Res)->((qX->Res))->Res:=λv rec q=>j1L a v.1 v.2 (λout i=>rec (out,i)) q
noncomputable def j9s (a:List qR) (n:Nat) (out:List qR) (i:Int) (k0:qX->Res):Res:=Z14 (j50 a) n (out,i) (k0)
noncomputable def j9h:Z1q Unit:=λσ k=>rdN σ 23<|rd1 σ 0 y25 .S λa=>rd1 σ 3 y25 .O λout=>rdI σ 4 λi=>j9s a Z12 out i (λ(out1:List qR)=>k (.exit 0) (mkS 23 23 [(3,v1 y25 out1 .O)] []))
theorem jcC {W0:Base} {M:Nat->Prop} (hnp:W0.np<=0):Z22 Tryz.prog W0 M (cAt 58 (bo Tryz.f141)) j9h:=j0a follows j01 (Z8K jaQ Z94) hnp [] oN [0,3,4] [] ([],[]) [(0,[3],[])] ([],[]) λσ k _ h=>rN h λhn h=>rV h λa h0 h=>rV h λout h3 h=>rV h λi h4 h=>⟨_,Z9m (m:=23) hn (sC h0 (sC h3 (sC h4 sN))) bN,.trans (Z88 (λv:qX×Int=>(mkS 23 23 [(0,v1 y25 a .S),(3,v1 y25 v.1 .O),(4,vI v.2)] [])) (j50 a) (λ(k:Z6O Unit)=>(((λ(out1:List qR)=>k (.exit 0) (mkS 23 23 [(3,v1 y25 out1 .O)] []))):(qX->Res))) (λv rec k=>by kernel_rfl) Z12 (out,i) k) h⟩
noncomputable def j4h (a:List qR) (k0:qX->Res):Res:=
 bif Z8m (nI (List.length a)) (nI (List.length a)) then
  j9s a Z12 (Z7Y (nI (List.length a)) []) 0 λ(out:List qR)=>
   k0 out
 else none
noncomputable def jak:Sig Unit:=⟨[.borrow y25 false],[false],λvals ext k=>av vals y25 λa vals=>nl vals<|nl ext<|j4h a (λ(r0:List qR)=>k [w1 y25 r0 .O] [] [])⟩
theorem jdL:Z1p Tryz.prog 141 jak:=j02 (np:=0) follows j01 (Z8K jaQ Z94) [j9h] (oI 58 0 (jcC) oN) false Tryz.func141 λ_ _ k _ h=>aV h λ_ _ _ _ _ h=>nL h λ_ h=>nL h λ_ h=>by subst_vars;exact .trans (by kernel_rfl) h
noncomputable def j1J (a:List qR) (b:List qR) (i:Int) (rec:Int->Res) (k0:Unit->Res) (k1:Unit->Res):Res:=
 bif decide (i<(nI (List.length a))) then
  bif inb i (List.length a) then
   bif inb i (List.length b) then
    j7m (nth [] a i) (nth [] b i) λ(r:Bool)=>
     bif !r then
      k1 ()
     else
      rec (Z8o (i+1))
   else none
  else none
 else
  k0 ()
noncomputable def j7X (a:List qR) (b:List qR):Int->(Int->Res)->((Unit->Res)×(Unit->Res))->Res:=λv rec q=>j1J a b v (λi=>rec (i)) q.1 q.2
noncomputable def j6p (a:List qR) (b:List qR) (n:Nat) (i:Int) (k0:Unit->Res) (k1:Unit->Res):Res:=Z14 (j7X a b) n (i) (k0,k1)
noncomputable def j9f:Z1q Unit:=λσ k=>rdN σ 27<|rd1 σ 0 y25 .S λa=>rd1 σ 1 y25 .S λb=>rdI σ 5 λi=>j6p a b Z12 i (λ(_:Unit)=>k (.exit 0) (mkS 27 27 [] [])) (λ(_:Unit)=>k .ret (mkS 27 27 [(4,vB false)] []))
theorem jcA {W0:Base} {M:Nat->Prop} (hnp:W0.np<=0):Z22 Tryz.prog W0 M (cAt 58 (bo Tryz.f149)) j9f:=j0a follows j01 (Z8K jaM Z94) hnp [] oN [0,1,5] [] ([],[]) [(0,[],[])] ([4],[]) λσ k _ h=>rN h λhn h=>rV h λa h0 h=>rV h λb h1 h=>rV h λi h5 h=>⟨_,Z9m (m:=27) hn (sC h0 (sC h1 (sC h5 sN))) bN,.trans (Z88 (λv:Int=>(mkS 27 27 [(0,v1 y25 a .S),(1,v1 y25 b .S),(5,vI v)] [])) (j7X a b) (λ(k:Z6O Unit)=>(((λ(_:Unit)=>k (.exit 0) (mkS 27 27 [] [])),(λ(_:Unit)=>k .ret (mkS 27 27 [(4,vB false)] []))):(Unit->Res)×(Unit->Res))) (λv rec k=>by kernel_rfl) Z12 (i) k) h⟩
noncomputable def j40 (a:List qR) (b:List qR) (k0:Bool->Res):Res:=
 bif ((nI (List.length a)) != (nI (List.length b))) then
  k0 false
 else
  j6p a b Z12 0
   (λ(_:Unit)=>
    k0 true)
   (λ(_:Unit)=>
    k0 false)
noncomputable def jab:Sig Unit:=⟨[.look y25 false,.look y25 false],[false],λvals ext k=>av vals y25 λa vals=>av vals y25 λb vals=>nl vals<|nl ext<|j40 a b (λ(r0:Bool)=>k [wB r0] [] [])⟩
theorem jdB:Z1p Tryz.prog 149 jab:=j02 (np:=0) follows j01 (Z8K jaM Z94) [j9f] (oI 58 0 (jcA) oN) false Tryz.func149 λ_ _ k _ h=>aV h λ_ _ _ _ _ h=>aV h λ_ _ _ _ _ h=>nL h λ_ h=>nL h λ_ h=>by subst_vars;exact .trans (by kernel_rfl) h
noncomputable def j1e (a:List qR) (k_:Int) (i:Int) (rec:qX->Int->Int->Res) (k0:qX->Int->Res):Res:=
 bif decide (i<(nI (List.length a))) then
  bif inb i (List.length a) then
   j5p (nth [] a i) k_ λ(r:Int) (a1:List qW)=>
    rec (upd a i a1) r (Z8o (i+1))
  else none
 else
  k0 a k_
noncomputable def j3I:(qX×Int×Int)->(qX×Int×Int->Res)->((qX->Int->Res))->Res:=λv rec q=>j1e v.1 v.2.1 v.2.2 (λa k_ i=>rec (a,k_,i)) q
noncomputable def j4Z (n:Nat) (a:List qR) (k_:Int) (i:Int) (k0:qX->Int->Res):Res:=Z14 (j3I) n (a,k_,i) (k0)
noncomputable def j7E:Z1q Unit:=λσ k=>rdN σ 20<|rd1 σ 0 y25 .O λa=>rdI σ 1 λk_=>rdI σ 5 λi=>j4Z Z12 a k_ i (λ(a2:List qR) (k_1:Int)=>k (.exit 0) (mkS 20 20 [(0,v1 y25 a2 .O),(1,vI k_1)] []))
theorem jbr {W0:Base} {M:Nat->Prop} (hnp:W0.np<=1):Z22 Tryz.prog W0 M (cAt 26 (bo Tryz.f151)) j7E:=j0a follows j01 (Z8K j9q Z94) hnp [] oN [0,1,5] [] ([],[]) [(0,[0,1],[])] ([],[]) λσ k _ h=>rN h λhn h=>rV h λa h0 h=>rV h λk_ h1 h=>rV h λi h5 h=>⟨_,Z9m (m:=20) hn (sC h0 (sC h1 (sC h5 sN))) bN,.trans (Z88 (λv:qX×Int×Int=>(mkS 20 20 [(0,v1 y25 v.1 .O),(1,vI v.2.1),(5,vI v.2.2)] [])) (j3I) (λ(k:Z6O Unit)=>(((λ(a2:List qR) (k_1:Int)=>k (.exit 0) (mkS 20 20 [(0,v1 y25 a2 .O),(1,vI k_1)] []))):(qX->Int->Res))) (λv rec k=>by kernel_rfl) Z12 (a,k_,i) k) h⟩
noncomputable def j3d (a:List qR) (k_:Int) (k0:Int->qX->Res):Res:=
 j4Z Z12 a k_ 0 λ(a1:List qR) (k_1:Int)=>
  k0 k_1 a1
noncomputable def j93:Sig Unit:=⟨[.inout y25 false,.borrow tI false],[false],λvals ext k=>ao vals y25 [.O] λa vals=>av vals tI λk_ vals=>nl vals<|nl ext<|j3d a k_ (λ(r0:Int) (i0:List qR)=>k [wI r0] [w1 y25 i0 .O] [])⟩
theorem jcs:Z1p Tryz.prog 151 j93:=j02 (np:=1) follows j01 (Z8K j9q Z94) [j7E] (oI 26 0 (jbr) oN) false Tryz.func151 λ_ _ k _ h=>aO h λ_ _ _ _ h=>aV h λ_ _ _ _ _ h=>nL h λ_ h=>nL h λ_ h=>by subst_vars;exact .trans (by kernel_rfl) h
noncomputable def j1b (a:List qR) (k_:Int) (i:Int) (rec:Int->Int->Res) (k0:Int->Res) (k1:Unit->Res):Res:=
 bif decide (i<(nI (List.length a))) then
  bif inb i (List.length a) then
   j5o (nth [] a i) k_ λ(r:Int)=>
    bif decide (r<0) then
     k1 ()
    else
     rec r (Z8o (i+1))
  else none
 else
  k0 k_
noncomputable def j3E (a:List qR):(Int×Int)->(Int×Int->Res)->((Int->Res)×(Unit->Res))->Res:=λv rec q=>j1b a v.1 v.2 (λk_ i=>rec (k_,i)) q.1 q.2
noncomputable def j4W (a:List qR) (n:Nat) (k_:Int) (i:Int) (k0:Int->Res) (k1:Unit->Res):Res:=Z14 (j3E a) n (k_,i) (k0,k1)
noncomputable def j7B:Z1q Unit:=λσ k=>rdN σ 22<|rd1 σ 0 y25 .S λa=>rdI σ 1 λk_=>rdI σ 5 λi=>j4W a Z12 k_ i (λ(k_1:Int)=>k (.exit 0) (mkS 22 22 [(1,vI k_1)] [])) (λ(_:Unit)=>k .ret (mkS 22 22 [(4,vI (-1))] []))
theorem jbo {W0:Base} {M:Nat->Prop} (hnp:W0.np<=0):Z22 Tryz.prog W0 M (cAt 26 (bo Tryz.f283)) j7B:=j0a follows j01 (Z8K j9o Z94) hnp [] oN [0,1,5] [] ([],[]) [(0,[1],[])] ([4],[]) λσ k _ h=>rN h λhn h=>rV h λa h0 h=>rV h λk_ h1 h=>rV h λi h5 h=>⟨_,Z9m (m:=22) hn (sC h0 (sC h1 (sC h5 sN))) bN,.trans (Z88 (λv:Int×Int=>(mkS 22 22 [(0,v1 y25 a .S),(1,vI v.1),(5,vI v.2)] [])) (j3E a) (λ(k:Z6O Unit)=>(((λ(k_1:Int)=>k (.exit 0) (mkS 22 22 [(1,vI k_1)] [])),(λ(_:Unit)=>k .ret (mkS 22 22 [(4,vI (-1))] []))):(Int->Res)×(Unit->Res))) (λv rec k=>by kernel_rfl) Z12 (k_,i) k) h⟩
noncomputable def j3a (a:List qR) (k_:Int) (k0:Int->Res):Res:=
 j4W a Z12 k_ 0
  (λ(k_1:Int)=>
   k0 k_1)
  (λ(_:Unit)=>
   k0 (-1))
noncomputable def j92:Sig Unit:=⟨[.look y25 false,.look tI false],[false],λvals ext k=>av vals y25 λa vals=>av vals tI λk_ vals=>nl vals<|nl ext<|j3a a k_ (λ(r0:Int)=>k [wI r0] [] [])⟩
theorem jcp:Z1p Tryz.prog 283 j92:=j02 (np:=0) follows j01 (Z8K j9o Z94) [j7B] (oI 26 0 (jbo) oN) false Tryz.func283 λ_ _ k _ h=>aV h λ_ _ _ _ _ h=>aV h λ_ _ _ _ _ h=>nL h λ_ h=>nL h λ_ h=>by subst_vars;exact .trans (by kernel_rfl) h
end Go.PI.G
namespace Go.PI.G
open Go Go.PI Go.Proofs
open Go.Code (pl pr)
noncomputable def j61 (a:qF×List qR) (left:Int) (k0:Int->Res):Res:=
 j6r a.1 left λ(r:Int)=>
  bif decide (r<0) then
   k0 (-1)
  else
   j4f a.2 r λ(r1:Int)=>
    bif decide (r1<0) then
     k0 (-1)
    else
     k0 r1
noncomputable def j9R:Sig Unit:=⟨[.look y26 true,.look tI false],[false],λvals ext k=>av vals y26 λa vals=>av vals tI λleft vals=>nl vals<|nl ext<|j61 a left (λ(r0:Int)=>k [wI r0] [] [])⟩
theorem jfS:Z1p Tryz.prog 46 j9R:=j02 (np:=0) follows j01 (Z8K jf9 (Z8K jdK Z94)) [] oN false Tryz.func46 λ_ _ k _ h=>aV h λ_ _ _ _ _ h=>aV h λ_ _ _ _ _ h=>nL h λ_ h=>nL h λ_ h=>by subst_vars;exact .trans (by delta j61 jbB jaj;refine gz j6r λ_ e=> ?_;rewrite [<-e];refine gz j4f λ_ e=> ?_;rewrite [<-e];kernel_rfl) h
noncomputable def j0G (a:qF×List qR) (k0:qD->Res):Res:=
 j6u a.1 λ(r:List qT)=>
  j4h a.2 λ(r1:List qR)=>
   k0 (r,r1)
noncomputable def j5e:Sig Unit:=⟨[.borrow y26 true],[true],λvals ext k=>av vals y26 λa vals=>nl vals<|nl ext<|j0G a (λ(r0:qF×List qR)=>k [⟨y26,true,r0,[.O,.O]⟩] [] [])⟩
theorem jfT:Z1p Tryz.prog 48 j5e:=j02 (np:=0) follows j01 (Z8K jfb (Z8K jdL Z94)) [] oN false Tryz.func48 λ_ _ k _ h=>aV h λ_ _ _ _ _ h=>nL h λ_ h=>nL h λ_ h=>by subst_vars;exact .trans (by delta j0G jbC jak;refine gz j6u λ_ e=> ?_;rewrite [<-e];refine gz j4h λ_ e=> ?_;rewrite [<-e];kernel_rfl) h
noncomputable def j3Z (a:qF×List qR) (b:qF×List qR) (k0:Bool->Res):Res:=
 j6l a.1 b.1 λ(r:Bool)=>
  bif !r then
   k0 false
  else
   j40 a.2 b.2 λ(r1:Bool)=>
    bif !r1 then
     k0 false
    else
     k0 true
noncomputable def j9Q:Sig Unit:=⟨[.look y26 true,.look y26 true],[false],λvals ext k=>av vals y26 λa vals=>av vals y26 λb vals=>nl vals<|nl ext<|j3Z a b (λ(r0:Bool)=>k [wB r0] [] [])⟩
theorem jcg:Z1p Tryz.prog 51 j9Q:=j02 (np:=0) follows j01 (Z8K jf5 (Z8K jdB Z94)) [] oN false Tryz.func51 λ_ _ k _ h=>aV h λ_ _ _ _ _ h=>aV h λ_ _ _ _ _ h=>nL h λ_ h=>nL h λ_ h=>by subst_vars;exact .trans (by delta j3Z jbw jab;refine gz j6l λ_ e=> ?_;rewrite [<-e];refine gz j40 λ_ e=> ?_;rewrite [<-e];kernel_rfl) h
noncomputable def j30 (a:qF×List qR) (k_:Int) (k0:Int->qD->Res):Res:=
 j49 a.1 k_ λ(r:Int) (a1:List qT)=>
  j3d a.2 r λ(r1:Int) (a2:List qR)=>
   k0 r1 (a1,a2)
noncomputable def j7M:Sig Unit:=⟨[.inout y26 true,.borrow tI false],[false],λvals ext k=>ao vals y26 [.O,.O] λa vals=>av vals tI λk_ vals=>nl vals<|nl ext<|j30 a k_ (λ(r0:Int) (i0:qF×List qR)=>k [wI r0] [⟨y26,true,i0,[.O,.O]⟩] [])⟩
theorem jaO:Z1p Tryz.prog 52 j7M:=j02 (np:=1) follows j01 (Z8K jdH (Z8K jcs Z94)) [] oN false Tryz.func52 λ_ _ k _ h=>aO h λ_ _ _ _ h=>aV h λ_ _ _ _ _ h=>nL h λ_ h=>nL h λ_ h=>by subst_vars;exact .trans (by delta j30 jag j93;refine gz j49 λ_ e=> ?_;rewrite [<-e];refine gz j3d λ_ e=> ?_;rewrite [<-e];kernel_rfl) h
noncomputable def j5b (a:qF×List qR) (k_:Int) (k0:Int->Res):Res:=
 j42 a.1 k_ λ(r:Int)=>
  bif decide (r<0) then
   k0 (-1)
  else
   j3a a.2 r λ(r1:Int)=>
    bif decide (r1<0) then
     k0 (-1)
    else
     k0 r1
noncomputable def jeN:Sig Unit:=⟨[.look y26 true,.look tI false],[false],λvals ext k=>av vals y26 λa vals=>av vals tI λk_ vals=>nl vals<|nl ext<|j5b a k_ (λ(r0:Int)=>k [wI r0] [] [])⟩
theorem jeo:Z1p Tryz.prog 228 jeN:=j02 (np:=0) follows j01 (Z8K jdD (Z8K jcp Z94)) [] oN false Tryz.func228 λ_ _ k _ h=>aV h λ_ _ _ _ _ h=>aV h λ_ _ _ _ _ h=>nL h λ_ h=>nL h λ_ h=>by subst_vars;exact .trans (by delta j5b jac j92;refine gz j42 λ_ e=> ?_;rewrite [<-e];refine gz j3a λ_ e=> ?_;rewrite [<-e];kernel_rfl) h
end Go.PI.G
namespace Go.PI.G
open Go Go.PI Go.Proofs
open Go.Code (pl pr)
noncomputable def j6s (a:qL) (left:Int) (k0:Int->Res):Res:=
 j21 a left λ(r:Int)=>
  bif decide (r<0) then
   k0 (-1)
  else
   k0 r
noncomputable def j94:Sig Unit:=⟨[.look y1 true,.look tI false],[false],λvals ext k=>av vals y1 λa vals=>av vals tI λleft vals=>nl vals<|nl ext<|j6s a left (λ(r0:Int)=>k [wI r0] [] [])⟩
theorem jfa:Z1p Tryz.prog 19 j94:=j02 (np:=0) follows j01 (Z8K j8z Z94) [] oN false Tryz.func19 λ_ _ k _ h=>aV h λ_ _ _ _ _ h=>aV h λ_ _ _ _ _ h=>nL h λ_ h=>nL h λ_ h=>by subst_vars;exact .trans (by kernel_rfl) h
noncomputable def j0Q (a:qL) (k0:qL->Res):Res:=
 j22 a λ(r:qL)=>
  k0 r
noncomputable def j4k:Sig Unit:=⟨[.borrow y1 true],[true],λvals ext k=>av vals y1 λa vals=>nl vals<|nl ext<|j0Q a (λ(r0:qL)=>k [⟨y1,true,r0,[.O]⟩] [] [])⟩
theorem jfc:Z1p Tryz.prog 22 j4k:=j02 (np:=0) follows j01 (Z8K j8B Z94) [] oN false Tryz.func22 λ_ _ k _ h=>aV h λ_ _ _ _ _ h=>nL h λ_ h=>nL h λ_ h=>by subst_vars;exact .trans (by kernel_rfl) h
noncomputable def j3j (a:qL) (b:qL) (k0:Bool->Res):Res:=
 j0T a b λ(r:Bool)=>
  bif !r then
   k0 false
  else
   k0 true
noncomputable def j6w:Sig Unit:=⟨[.look y1 true,.look y1 true],[false],λvals ext k=>av vals y1 λa vals=>av vals y1 λb vals=>nl vals<|nl ext<|j3j a b (λ(r0:Bool)=>k [wB r0] [] [])⟩
theorem jba:Z1p Tryz.prog 25 j6w:=j02 (np:=0) follows j01 (Z8K j5x Z94) [] oN false Tryz.func25 λ_ _ k _ h=>aV h λ_ _ _ _ _ h=>aV h λ_ _ _ _ _ h=>nL h λ_ h=>nL h λ_ h=>by subst_vars;exact .trans (by kernel_rfl) h
noncomputable def j2d (a:qL) (k_:Int) (k0:Int->qL->Res):Res:=
 j0S a k_ λ(r:Int) (a1:qL)=>
  k0 r a1
noncomputable def j4L:Sig Unit:=⟨[.inout y1 true,.borrow tI false],[false],λvals ext k=>ao vals y1 [.O] λa vals=>av vals tI λk_ vals=>nl vals<|nl ext<|j2d a k_ (λ(r0:Int) (i0:qL)=>k [wI r0] [⟨y1,true,i0,[.O]⟩] [])⟩
theorem ja0:Z1p Tryz.prog 26 j4L:=j02 (np:=1) follows j01 (Z8K j3T Z94) [] oN false Tryz.func26 λ_ _ k _ h=>aO h λ_ _ _ _ h=>aV h λ_ _ _ _ _ h=>nL h λ_ h=>nL h λ_ h=>by subst_vars;exact .trans (by kernel_rfl) h
noncomputable def j45 (a:qL) (k_:Int) (k0:Int->Res):Res:=
 j0F a k_ λ(r:Int)=>
  bif decide (r<0) then
   k0 (-1)
  else
   k0 r
noncomputable def jaf:Sig Unit:=⟨[.look y1 true,.look tI false],[false],λvals ext k=>av vals y1 λa vals=>av vals tI λk_ vals=>nl vals<|nl ext<|j45 a k_ (λ(r0:Int)=>k [wI r0] [] [])⟩
theorem jdG:Z1p Tryz.prog 157 jaf:=j02 (np:=0) follows j01 (Z8K j3S Z94) [] oN false Tryz.func157 λ_ _ k _ h=>aV h λ_ _ _ _ _ h=>aV h λ_ _ _ _ _ h=>nL h λ_ h=>nL h λ_ h=>by subst_vars;exact .trans (by kernel_rfl) h
end Go.PI.G
namespace Go.PI.G
open Go Go.PI Go.Proofs
open Go.Code (pl pr)
noncomputable def j4B (a:qD×Int×Int) (b:qD×Int×Int) (k0:Bool->Res):Res:=
 j3Z a.1 b.1 λ(r:Bool)=>
  bif !r then
   k0 false
  else
   bif (a.2.1 != b.2.1) then
    k0 false
   else
    bif (a.2.2 != b.2.2) then
     k0 false
    else
     k0 true
noncomputable def jby:Sig Unit:=⟨[.look y29 true,.look y29 true],[false],λvals ext k=>av vals y29 λa vals=>av vals y29 λb vals=>nl vals<|nl ext<|j4B a b (λ(r0:Bool)=>k [wB r0] [] [])⟩
theorem jf7:Z1p Tryz.prog 145 jby:=j02 (np:=0) follows j01 (Z8K jcg Z94) [] oN false Tryz.func145 λ_ _ k _ h=>aV h λ_ _ _ _ _ h=>aV h λ_ _ _ _ _ h=>nL h λ_ h=>nL h λ_ h=>by subst_vars;exact .trans (by kernel_rfl) h
noncomputable def j3c (a:qD×Int×Int) (k_:Int) (k0:Int->(qD×Int×Int)->Res):Res:=
 j30 a.1 k_ λ(r:Int) (a1:qF×List qR)=>
  k0 r (a1,a.2)
noncomputable def jah:Sig Unit:=⟨[.inout y29 true,.borrow tI false],[false],λvals ext k=>ao vals y29 [.O,.O] λa vals=>av vals tI λk_ vals=>nl vals<|nl ext<|j3c a k_ (λ(r0:Int) (i0:qD×Int×Int)=>k [wI r0] [⟨y29,true,i0,[.O,.O]⟩] [])⟩
theorem jdI:Z1p Tryz.prog 153 jah:=j02 (np:=1) follows j01 (Z8K jaO Z94) [] oN false Tryz.func153 λ_ _ k _ h=>aO h λ_ _ _ _ h=>aV h λ_ _ _ _ _ h=>nL h λ_ h=>nL h λ_ h=>by subst_vars;exact .trans (by kernel_rfl) h
noncomputable def j39 (a:qD×Int×Int) (k_:Int) (k0:Int->Res):Res:=
 j5b a.1 k_ λ(r:Int)=>
  bif decide (r<0) then
   k0 (-1)
  else
   k0 r
noncomputable def jad:Sig Unit:=⟨[.look y29 true,.look tI false],[false],λvals ext k=>av vals y29 λa vals=>av vals tI λk_ vals=>nl vals<|nl ext<|j39 a k_ (λ(r0:Int)=>k [wI r0] [] [])⟩
theorem jdE:Z1p Tryz.prog 158 jad:=j02 (np:=0) follows j01 (Z8K jeo Z94) [] oN false Tryz.func158 λ_ _ k _ h=>aV h λ_ _ _ _ _ h=>aV h λ_ _ _ _ _ h=>nL h λ_ h=>nL h λ_ h=>by subst_vars;exact .trans (by kernel_rfl) h
end Go.PI.G
namespace Go.PI.G
open Go Go.PI Go.Proofs
open Go.Code (pl pr)
noncomputable def j26 (a:List Int) (b:List Int) (i:Int) (rec:Int->Res) (k0:Unit->Res) (k1:Unit->Res):Res:=
 bif decide (i<(nI (List.length a))) then
  bif inb i (List.length a) then
   bif inb i (List.length b) then
    bif ((nth 0 a i) != (nth 0 b i)) then
     k1 ()
    else
     rec (Z8o (i+1))
   else none
  else none
 else
  k0 ()
noncomputable def j8I (a:List Int) (b:List Int):Int->(Int->Res)->((Unit->Res)×(Unit->Res))->Res:=λv rec q=>j26 a b v (λi=>rec (i)) q.1 q.2
noncomputable def j73 (a:List Int) (b:List Int) (n:Nat) (i:Int) (k0:Unit->Res) (k1:Unit->Res):Res:=Z14 (j8I a b) n (i) (k0,k1)
noncomputable def j9z:Z1q Unit:=λσ k=>rdN σ 26<|rd1 σ 0 y31 .S λa=>rd1 σ 1 y31 .S λb=>rdI σ 5 λi=>j73 a b Z12 i (λ(_:Unit)=>k (.exit 0) (mkS 26 26 [] [])) (λ(_:Unit)=>k .ret (mkS 26 26 [(4,vB false)] []))
theorem jd8 {W0:Base} {M:Nat->Prop} (hnp:W0.np<=0):Z22 Tryz.prog W0 M (cAt 58 (bo Tryz.f147)) j9z:=j0a follows j01 Z94 hnp [] oN [0,1,5] [] ([],[]) [(0,[],[])] ([4],[]) λσ k _ h=>rN h λhn h=>rV h λa h0 h=>rV h λb h1 h=>rV h λi h5 h=>⟨_,Z9m (m:=26) hn (sC h0 (sC h1 (sC h5 sN))) bN,.trans (Z88 (λv:Int=>(mkS 26 26 [(0,v1 y31 a .S),(1,v1 y31 b .S),(5,vI v)] [])) (j8I a b) (λ(k:Z6O Unit)=>(((λ(_:Unit)=>k (.exit 0) (mkS 26 26 [] [])),(λ(_:Unit)=>k .ret (mkS 26 26 [(4,vB false)] []))):(Unit->Res)×(Unit->Res))) (λv rec k=>by kernel_rfl) Z12 (i) k) h⟩
noncomputable def j58 (a:List Int) (b:List Int) (k0:Bool->Res):Res:=
 bif ((nI (List.length a)) != (nI (List.length b))) then
  k0 false
 else
  j73 a b Z12 0
   (λ(_:Unit)=>
    k0 true)
   (λ(_:Unit)=>
    k0 false)
noncomputable def jaX:Sig Unit:=⟨[.look y31 false,.look y31 false],[false],λvals ext k=>av vals y31 λa vals=>av vals y31 λb vals=>nl vals<|nl ext<|j58 a b (λ(r0:Bool)=>k [wB r0] [] [])⟩
theorem jek:Z1p Tryz.prog 147 jaX:=j02 (np:=0) follows j01 Z94 [j9z] (oI 58 0 (jd8) oN) false Tryz.func147 λ_ _ k _ h=>aV h λ_ _ _ _ _ h=>aV h λ_ _ _ _ _ h=>nL h λ_ h=>nL h λ_ h=>by subst_vars;exact .trans (by kernel_rfl) h
noncomputable def j1t (a:List Int) (k_:Int) (i:Int) (rec:(List Int)->Int->Int->Res) (k0:(List Int)->Int->Res):Res:=
 bif decide (i<(nI (List.length a))) then
  bif inb i (List.length a) then
   rec (upd a i k_) (Z8o (k_+1)) (Z8o (i+1))
  else none
 else
  k0 a k_
noncomputable def j4a:((List Int)×Int×Int)->((List Int)×Int×Int->Res)->(((List Int)->Int->Res))->Res:=λv rec q=>j1t v.1 v.2.1 v.2.2 (λa k_ i=>rec (a,k_,i)) q
noncomputable def j5J (n:Nat) (a:List Int) (k_:Int) (i:Int) (k0:(List Int)->Int->Res):Res:=Z14 (j4a) n (a,k_,i) (k0)
noncomputable def j88:Z1q Unit:=λσ k=>rdN σ 19<|rd1 σ 0 y31 .O λa=>rdI σ 1 λk_=>rdI σ 5 λi=>j5J Z12 a k_ i (λ(a1:List Int) (k_1:Int)=>k (.exit 0) (mkS 19 19 [(0,v1 y31 a1 .O),(1,vI k_1)] []))
theorem jbX {W0:Base} {M:Nat->Prop} (hnp:W0.np<=1):Z22 Tryz.prog W0 M (cAt 26 (bo Tryz.f155)) j88:=j0a follows j01 Z94 hnp [] oN [0,1,5] [] ([],[]) [(0,[0,1],[])] ([],[]) λσ k _ h=>rN h λhn h=>rV h λa h0 h=>rV h λk_ h1 h=>rV h λi h5 h=>⟨_,Z9m (m:=19) hn (sC h0 (sC h1 (sC h5 sN))) bN,.trans (Z88 (λv:(List Int)×Int×Int=>(mkS 19 19 [(0,v1 y31 v.1 .O),(1,vI v.2.1),(5,vI v.2.2)] [])) (j4a) (λ(k:Z6O Unit)=>(((λ(a1:List Int) (k_1:Int)=>k (.exit 0) (mkS 19 19 [(0,v1 y31 a1 .O),(1,vI k_1)] []))):((List Int)->Int->Res))) (λv rec k=>by kernel_rfl) Z12 (a,k_,i) k) h⟩
noncomputable def j3t (a:List Int) (k_:Int) (k0:Int->(List Int)->Res):Res:=
 j5J Z12 a k_ 0 λ(a1:List Int) (k_1:Int)=>
  k0 k_1 a1
noncomputable def j9w:Sig Unit:=⟨[.inout y31 false,.borrow tI false],[false],λvals ext k=>ao vals y31 [.O] λa vals=>av vals tI λk_ vals=>nl vals<|nl ext<|j3t a k_ (λ(r0:Int) (i0:List Int)=>k [wI r0] [w1 y31 i0 .O] [])⟩
theorem jcU:Z1p Tryz.prog 155 j9w:=j02 (np:=1) follows j01 Z94 [j88] (oI 26 0 (jbX) oN) false Tryz.func155 λ_ _ k _ h=>aO h λ_ _ _ _ h=>aV h λ_ _ _ _ _ h=>nL h λ_ h=>nL h λ_ h=>by subst_vars;exact .trans (by kernel_rfl) h
noncomputable def j1q (a:List Int) (k_:Int) (i:Int) (rec:Int->Int->Res) (k0:Int->Res) (k1:Unit->Res):Res:=
 bif decide (i<(nI (List.length a))) then
  bif inb i (List.length a) then
   bif ((nth 0 a i) != k_) then
    k1 ()
   else
    rec (Z8o (k_+1)) (Z8o (i+1))
  else none
 else
  k0 k_
noncomputable def j43 (a:List Int):(Int×Int)->(Int×Int->Res)->((Int->Res)×(Unit->Res))->Res:=λv rec q=>j1q a v.1 v.2 (λk_ i=>rec (k_,i)) q.1 q.2
noncomputable def j5E (a:List Int) (n:Nat) (k_:Int) (i:Int) (k0:Int->Res) (k1:Unit->Res):Res:=Z14 (j43 a) n (k_,i) (k0,k1)
noncomputable def j83:Z1q Unit:=λσ k=>rdN σ 21<|rd1 σ 0 y31 .S λa=>rdI σ 1 λk_=>rdI σ 5 λi=>j5E a Z12 k_ i (λ(k_1:Int)=>k (.exit 0) (mkS 21 21 [(1,vI k_1)] [])) (λ(_:Unit)=>k .ret (mkS 21 21 [(4,vI (-1))] []))
theorem jbP {W0:Base} {M:Nat->Prop} (hnp:W0.np<=0):Z22 Tryz.prog W0 M (cAt 26 (bo Tryz.f160)) j83:=j0a follows j01 Z94 hnp [] oN [0,1,5] [] ([],[]) [(0,[1],[])] ([4],[]) λσ k _ h=>rN h λhn h=>rV h λa h0 h=>rV h λk_ h1 h=>rV h λi h5 h=>⟨_,Z9m (m:=21) hn (sC h0 (sC h1 (sC h5 sN))) bN,.trans (Z88 (λv:Int×Int=>(mkS 21 21 [(0,v1 y31 a .S),(1,vI v.1),(5,vI v.2)] [])) (j43 a) (λ(k:Z6O Unit)=>(((λ(k_1:Int)=>k (.exit 0) (mkS 21 21 [(1,vI k_1)] [])),(λ(_:Unit)=>k .ret (mkS 21 21 [(4,vI (-1))] []))):(Int->Res)×(Unit->Res))) (λv rec k=>by kernel_rfl) Z12 (k_,i) k) h⟩
noncomputable def j3r (a:List Int) (k_:Int) (k0:Int->Res):Res:=
 j5E a Z12 k_ 0
  (λ(k_1:Int)=>
   k0 k_1)
  (λ(_:Unit)=>
   k0 (-1))
noncomputable def j9u:Sig Unit:=⟨[.look y31 false,.look tI false],[false],λvals ext k=>av vals y31 λa vals=>av vals tI λk_ vals=>nl vals<|nl ext<|j3r a k_ (λ(r0:Int)=>k [wI r0] [] [])⟩
theorem jcS:Z1p Tryz.prog 160 j9u:=j02 (np:=0) follows j01 Z94 [j83] (oI 26 0 (jbP) oN) false Tryz.func160 λ_ _ k _ h=>aV h λ_ _ _ _ _ h=>aV h λ_ _ _ _ _ h=>nL h λ_ h=>nL h λ_ h=>by subst_vars;exact .trans (by kernel_rfl) h
end Go.PI.G
namespace Go.PI.G
open Go Go.PI Go.Proofs
open Go.Code (pl pr)
noncomputable def j1H (a:List Int) (b:List Int) (i:Int) (rec:Int->Res) (k0:Unit->Res) (k1:Unit->Res):Res:=
 bif decide (i<(nI (List.length a))) then
  bif inb i (List.length a) then
   bif inb i (List.length b) then
    bif ((nth 0 a i) != (nth 0 b i)) then
     k1 ()
    else
     rec (Z8o (i+1))
   else none
  else none
 else
  k0 ()
noncomputable def j7V (a:List Int) (b:List Int):Int->(Int->Res)->((Unit->Res)×(Unit->Res))->Res:=λv rec q=>j1H a b v (λi=>rec (i)) q.1 q.2
noncomputable def j6k (a:List Int) (b:List Int) (n:Nat) (i:Int) (k0:Unit->Res) (k1:Unit->Res):Res:=Z14 (j7V a b) n (i) (k0,k1)
noncomputable def j9d:Z1q Unit:=λσ k=>rdN σ 26<|rd1 σ 0 y0 .S λa=>rd1 σ 1 y0 .S λb=>rdI σ 5 λi=>j6k a b Z12 i (λ(_:Unit)=>k (.exit 0) (mkS 26 26 [] [])) (λ(_:Unit)=>k .ret (mkS 26 26 [(4,vB false)] []))
theorem jcy {W0:Base} {M:Nat->Prop} (hnp:W0.np<=0):Z22 Tryz.prog W0 M (cAt 58 (bo Tryz.f72)) j9d:=j0a follows j01 Z94 hnp [] oN [0,1,5] [] ([],[]) [(0,[],[])] ([4],[]) λσ k _ h=>rN h λhn h=>rV h λa h0 h=>rV h λb h1 h=>rV h λi h5 h=>⟨_,Z9m (m:=26) hn (sC h0 (sC h1 (sC h5 sN))) bN,.trans (Z88 (λv:Int=>(mkS 26 26 [(0,v1 y0 a .S),(1,v1 y0 b .S),(5,vI v)] [])) (j7V a b) (λ(k:Z6O Unit)=>(((λ(_:Unit)=>k (.exit 0) (mkS 26 26 [] [])),(λ(_:Unit)=>k .ret (mkS 26 26 [(4,vB false)] []))):(Unit->Res)×(Unit->Res))) (λv rec k=>by kernel_rfl) Z12 (i) k) h⟩
noncomputable def j6j (a:List Int) (b:List Int) (k0:Bool->Res):Res:=
 bif ((nI (List.length a)) != (nI (List.length b))) then
  k0 false
 else
  j6k a b Z12 0
   (λ(_:Unit)=>
    k0 true)
   (λ(_:Unit)=>
    k0 false)
noncomputable def je3:Sig Unit:=⟨[.look y0 false,.look y0 false],[false],λvals ext k=>av vals y0 λa vals=>av vals y0 λb vals=>nl vals<|nl ext<|j6j a b (λ(r0:Bool)=>k [wB r0] [] [])⟩
theorem jdz:Z1p Tryz.prog 72 je3:=j02 (np:=0) follows j01 Z94 [j9d] (oI 58 0 (jcy) oN) false Tryz.func72 λ_ _ k _ h=>aV h λ_ _ _ _ _ h=>aV h λ_ _ _ _ _ h=>nL h λ_ h=>nL h λ_ h=>by subst_vars;exact .trans (by kernel_rfl) h
noncomputable def j1c (a:List Int) (k_:Int) (i:Int) (rec:(List Int)->Int->Int->Res) (k0:(List Int)->Int->Res):Res:=
 bif decide (i<(nI (List.length a))) then
  bif inb i (List.length a) then
   rec (upd a i (wu8 k_)) (Z8o (k_+1)) (Z8o (i+1))
  else none
 else
  k0 a k_
noncomputable def j3G:((List Int)×Int×Int)->((List Int)×Int×Int->Res)->(((List Int)->Int->Res))->Res:=λv rec q=>j1c v.1 v.2.1 v.2.2 (λa k_ i=>rec (a,k_,i)) q
noncomputable def j4X (n:Nat) (a:List Int) (k_:Int) (i:Int) (k0:(List Int)->Int->Res):Res:=Z14 (j3G) n (a,k_,i) (k0)
noncomputable def j7C:Z1q Unit:=λσ k=>rdN σ 20<|rd1 σ 0 y0 .O λa=>rdI σ 1 λk_=>rdI σ 5 λi=>j4X Z12 a k_ i (λ(a1:List Int) (k_1:Int)=>k (.exit 0) (mkS 20 20 [(0,v1 y0 a1 .O),(1,vI k_1)] []))
theorem jbp {W0:Base} {M:Nat->Prop} (hnp:W0.np<=1):Z22 Tryz.prog W0 M (cAt 26 (bo Tryz.f73)) j7C:=j0a follows j01 Z94 hnp [] oN [0,1,5] [] ([],[]) [(0,[0,1],[])] ([],[]) λσ k _ h=>rN h λhn h=>rV h λa h0 h=>rV h λk_ h1 h=>rV h λi h5 h=>⟨_,Z9m (m:=20) hn (sC h0 (sC h1 (sC h5 sN))) bN,.trans (Z88 (λv:(List Int)×Int×Int=>(mkS 20 20 [(0,v1 y0 v.1 .O),(1,vI v.2.1),(5,vI v.2.2)] [])) (j3G) (λ(k:Z6O Unit)=>(((λ(a1:List Int) (k_1:Int)=>k (.exit 0) (mkS 20 20 [(0,v1 y0 a1 .O),(1,vI k_1)] []))):((List Int)->Int->Res))) (λv rec k=>by kernel_rfl) Z12 (a,k_,i) k) h⟩
noncomputable def j4F (a:List Int) (k_:Int) (k0:Int->(List Int)->Res):Res:=
 j4X Z12 a k_ 0 λ(a1:List Int) (k_1:Int)=>
  k0 k_1 a1
noncomputable def jcN:Sig Unit:=⟨[.inout y0 false,.borrow tI false],[false],λvals ext k=>ao vals y0 [.O] λa vals=>av vals tI λk_ vals=>nl vals<|nl ext<|j4F a k_ (λ(r0:Int) (i0:List Int)=>k [wI r0] [w1 y0 i0 .O] [])⟩
theorem j8y:Z1p Tryz.prog 73 jcN:=j02 (np:=1) follows j01 Z94 [j7C] (oI 26 0 (jbp) oN) false Tryz.func73 λ_ _ k _ h=>aO h λ_ _ _ _ h=>aV h λ_ _ _ _ _ h=>nL h λ_ h=>nL h λ_ h=>by subst_vars;exact .trans (by kernel_rfl) h
noncomputable def j19 (a:List Int) (k_:Int) (i:Int) (rec:Int->Int->Res) (k0:Int->Res) (k1:Unit->Res):Res:=
 bif decide (i<(nI (List.length a))) then
  bif inb i (List.length a) then
   bif ((nth 0 a i) != (wu8 k_)) then
    k1 ()
   else
    rec (Z8o (k_+1)) (Z8o (i+1))
  else none
 else
  k0 k_
noncomputable def j3C (a:List Int):(Int×Int)->(Int×Int->Res)->((Int->Res)×(Unit->Res))->Res:=λv rec q=>j19 a v.1 v.2 (λk_ i=>rec (k_,i)) q.1 q.2
noncomputable def j4U (a:List Int) (n:Nat) (k_:Int) (i:Int) (k0:Int->Res) (k1:Unit->Res):Res:=Z14 (j3C a) n (k_,i) (k0,k1)
noncomputable def j7z:Z1q Unit:=λσ k=>rdN σ 22<|rd1 σ 0 y0 .S λa=>rdI σ 1 λk_=>rdI σ 5 λi=>j4U a Z12 k_ i (λ(k_1:Int)=>k (.exit 0) (mkS 22 22 [(1,vI k_1)] [])) (λ(_:Unit)=>k .ret (mkS 22 22 [(4,vI (-1))] []))
theorem jbm {W0:Base} {M:Nat->Prop} (hnp:W0.np<=0):Z22 Tryz.prog W0 M (cAt 26 (bo Tryz.f284)) j7z:=j0a follows j01 Z94 hnp [] oN [0,1,5] [] ([],[]) [(0,[1],[])] ([4],[]) λσ k _ h=>rN h λhn h=>rV h λa h0 h=>rV h λk_ h1 h=>rV h λi h5 h=>⟨_,Z9m (m:=22) hn (sC h0 (sC h1 (sC h5 sN))) bN,.trans (Z88 (λv:Int×Int=>(mkS 22 22 [(0,v1 y0 a .S),(1,vI v.1),(5,vI v.2)] [])) (j3C a) (λ(k:Z6O Unit)=>(((λ(k_1:Int)=>k (.exit 0) (mkS 22 22 [(1,vI k_1)] [])),(λ(_:Unit)=>k .ret (mkS 22 22 [(4,vI (-1))] []))):(Int->Res)×(Unit->Res))) (λv rec k=>by kernel_rfl) Z12 (k_,i) k) h⟩
noncomputable def j4D (a:List Int) (k_:Int) (k0:Int->Res):Res:=
 j4U a Z12 k_ 0
  (λ(k_1:Int)=>
   k0 k_1)
  (λ(_:Unit)=>
   k0 (-1))
noncomputable def jcL:Sig Unit:=⟨[.look y0 false,.look tI false],[false],λvals ext k=>av vals y0 λa vals=>av vals tI λk_ vals=>nl vals<|nl ext<|j4D a k_ (λ(r0:Int)=>k [wI r0] [] [])⟩
theorem j8x:Z1p Tryz.prog 284 jcL:=j02 (np:=0) follows j01 Z94 [j7z] (oI 26 0 (jbm) oN) false Tryz.func284 λ_ _ k _ h=>aV h λ_ _ _ _ _ h=>aV h λ_ _ _ _ _ h=>nL h λ_ h=>nL h λ_ h=>by subst_vars;exact .trans (by kernel_rfl) h
end Go.PI.G
namespace Go.PI.G
open Go Go.PI Go.Proofs
open Go.Code (pl pr)
noncomputable def j7k (a:List Int) (b:List Int) (k0:Bool->Res):Res:=
 j6j a b λ(r:Bool)=>
  bif !r then
   k0 false
  else
   k0 true
noncomputable def jeJ:Sig Unit:=⟨[.look y0 true,.look y0 true],[false],λvals ext k=>av vals y0 λa vals=>av vals y0 λb vals=>nl vals<|nl ext<|j7k a b (λ(r0:Bool)=>k [wB r0] [] [])⟩
theorem jaL:Z1p Tryz.prog 15 jeJ:=j02 (np:=0) follows j01 (Z8K jdz Z94) [] oN false Tryz.func15 λ_ _ k _ h=>aV h λ_ _ _ _ _ h=>aV h λ_ _ _ _ _ h=>nL h λ_ h=>nL h λ_ h=>by subst_vars;exact .trans (by kernel_rfl) h
end Go.PI.G
namespace Go.PI.G
open Go Go.PI Go.Proofs
open Go.Code (pl pr)
noncomputable def j1I (a:List (List Int)) (b:List (List Int)) (i:Int) (rec:Int->Res) (k0:Unit->Res) (k1:Unit->Res):Res:=
 bif decide (i<(nI (List.length a))) then
  bif inb i (List.length a) then
   bif inb i (List.length b) then
    j7k (nth [] a i) (nth [] b i) λ(r:Bool)=>
     bif !r then
      k1 ()
     else
      rec (Z8o (i+1))
   else none
  else none
 else
  k0 ()
noncomputable def j7W (a:List (List Int)) (b:List (List Int)):Int->(Int->Res)->((Unit->Res)×(Unit->Res))->Res:=λv rec q=>j1I a b v (λi=>rec (i)) q.1 q.2
noncomputable def j6o (a:List (List Int)) (b:List (List Int)) (n:Nat) (i:Int) (k0:Unit->Res) (k1:Unit->Res):Res:=Z14 (j7W a b) n (i) (k0,k1)
noncomputable def j9e:Z1q Unit:=λσ k=>rdN σ 27<|rd1 σ 0 y30 .S λa=>rd1 σ 1 y30 .S λb=>rdI σ 5 λi=>j6o a b Z12 i (λ(_:Unit)=>k (.exit 0) (mkS 27 27 [] [])) (λ(_:Unit)=>k .ret (mkS 27 27 [(4,vB false)] []))
theorem jcz {W0:Base} {M:Nat->Prop} (hnp:W0.np<=0):Z22 Tryz.prog W0 M (cAt 58 (bo Tryz.f222)) j9e:=j0a follows j01 (Z8K jaL Z94) hnp [] oN [0,1,5] [] ([],[]) [(0,[],[])] ([4],[]) λσ k _ h=>rN h λhn h=>rV h λa h0 h=>rV h λb h1 h=>rV h λi h5 h=>⟨_,Z9m (m:=27) hn (sC h0 (sC h1 (sC h5 sN))) bN,.trans (Z88 (λv:Int=>(mkS 27 27 [(0,v1 y30 a .S),(1,v1 y30 b .S),(5,vI v)] [])) (j7W a b) (λ(k:Z6O Unit)=>(((λ(_:Unit)=>k (.exit 0) (mkS 27 27 [] [])),(λ(_:Unit)=>k .ret (mkS 27 27 [(4,vB false)] []))):(Unit->Res)×(Unit->Res))) (λv rec k=>by kernel_rfl) Z12 (i) k) h⟩
noncomputable def j6n (a:List (List Int)) (b:List (List Int)) (k0:Bool->Res):Res:=
 bif ((nI (List.length a)) != (nI (List.length b))) then
  k0 false
 else
  j6o a b Z12 0
   (λ(_:Unit)=>
    k0 true)
   (λ(_:Unit)=>
    k0 false)
noncomputable def je4:Sig Unit:=⟨[.look y30 false,.look y30 false],[false],λvals ext k=>av vals y30 λa vals=>av vals y30 λb vals=>nl vals<|nl ext<|j6n a b (λ(r0:Bool)=>k [wB r0] [] [])⟩
theorem jdA:Z1p Tryz.prog 222 je4:=j02 (np:=0) follows j01 (Z8K jaL Z94) [j9e] (oI 58 0 (jcz) oN) false Tryz.func222 λ_ _ k _ h=>aV h λ_ _ _ _ _ h=>aV h λ_ _ _ _ _ h=>nL h λ_ h=>nL h λ_ h=>by subst_vars;exact .trans (by kernel_rfl) h
noncomputable def j1d (a:List (List Int)) (k_:Int) (i:Int) (rec:(List (List Int))->Int->Int->Res) (k0:(List (List Int))->Int->Res):Res:=
 bif decide (i<(nI (List.length a))) then
  bif inb i (List.length a) then
   j4F (nth [] a i) k_ λ(r:Int) (a1:List Int)=>
    rec (upd a i a1) r (Z8o (i+1))
  else none
 else
  k0 a k_
noncomputable def j3H:((List (List Int))×Int×Int)->((List (List Int))×Int×Int->Res)->(((List (List Int))->Int->Res))->Res:=λv rec q=>j1d v.1 v.2.1 v.2.2 (λa k_ i=>rec (a,k_,i)) q
noncomputable def j4Y (n:Nat) (a:List (List Int)) (k_:Int) (i:Int) (k0:(List (List Int))->Int->Res):Res:=Z14 (j3H) n (a,k_,i) (k0)
noncomputable def j7D:Z1q Unit:=λσ k=>rdN σ 20<|rd1 σ 0 y30 .O λa=>rdI σ 1 λk_=>rdI σ 5 λi=>j4Y Z12 a k_ i (λ(a2:List (List Int)) (k_1:Int)=>k (.exit 0) (mkS 20 20 [(0,v1 y30 a2 .O),(1,vI k_1)] []))
theorem jbq {W0:Base} {M:Nat->Prop} (hnp:W0.np<=1):Z22 Tryz.prog W0 M (cAt 26 (bo Tryz.f227)) j7D:=j0a follows j01 (Z8K j8y Z94) hnp [] oN [0,1,5] [] ([],[]) [(0,[0,1],[])] ([],[]) λσ k _ h=>rN h λhn h=>rV h λa h0 h=>rV h λk_ h1 h=>rV h λi h5 h=>⟨_,Z9m (m:=20) hn (sC h0 (sC h1 (sC h5 sN))) bN,.trans (Z88 (λv:(List (List Int))×Int×Int=>(mkS 20 20 [(0,v1 y30 v.1 .O),(1,vI v.2.1),(5,vI v.2.2)] [])) (j3H) (λ(k:Z6O Unit)=>(((λ(a2:List (List Int)) (k_1:Int)=>k (.exit 0) (mkS 20 20 [(0,v1 y30 a2 .O),(1,vI k_1)] []))):((List (List Int))->Int->Res))) (λv rec k=>by kernel_rfl) Z12 (a,k_,i) k) h⟩
noncomputable def j4G (a:List (List Int)) (k_:Int) (k0:Int->(List (List Int))->Res):Res:=
 j4Y Z12 a k_ 0 λ(a1:List (List Int)) (k_1:Int)=>
  k0 k_1 a1
noncomputable def jcO:Sig Unit:=⟨[.inout y30 false,.borrow tI false],[false],λvals ext k=>ao vals y30 [.O] λa vals=>av vals tI λk_ vals=>nl vals<|nl ext<|j4G a k_ (λ(r0:Int) (i0:List (List Int))=>k [wI r0] [w1 y30 i0 .O] [])⟩
theorem jcr:Z1p Tryz.prog 227 jcO:=j02 (np:=1) follows j01 (Z8K j8y Z94) [j7D] (oI 26 0 (jbq) oN) false Tryz.func227 λ_ _ k _ h=>aO h λ_ _ _ _ h=>aV h λ_ _ _ _ _ h=>nL h λ_ h=>nL h λ_ h=>by subst_vars;exact .trans (by kernel_rfl) h
noncomputable def j1a (a:List (List Int)) (k_:Int) (i:Int) (rec:Int->Int->Res) (k0:Int->Res) (k1:Unit->Res):Res:=
 bif decide (i<(nI (List.length a))) then
  bif inb i (List.length a) then
   j4D (nth [] a i) k_ λ(r:Int)=>
    bif decide (r<0) then
     k1 ()
    else
     rec r (Z8o (i+1))
  else none
 else
  k0 k_
noncomputable def j3D (a:List (List Int)):(Int×Int)->(Int×Int->Res)->((Int->Res)×(Unit->Res))->Res:=λv rec q=>j1a a v.1 v.2 (λk_ i=>rec (k_,i)) q.1 q.2
noncomputable def j4V (a:List (List Int)) (n:Nat) (k_:Int) (i:Int) (k0:Int->Res) (k1:Unit->Res):Res:=Z14 (j3D a) n (k_,i) (k0,k1)
noncomputable def j7A:Z1q Unit:=λσ k=>rdN σ 22<|rd1 σ 0 y30 .S λa=>rdI σ 1 λk_=>rdI σ 5 λi=>j4V a Z12 k_ i (λ(k_1:Int)=>k (.exit 0) (mkS 22 22 [(1,vI k_1)] [])) (λ(_:Unit)=>k .ret (mkS 22 22 [(4,vI (-1))] []))
theorem jbn {W0:Base} {M:Nat->Prop} (hnp:W0.np<=0):Z22 Tryz.prog W0 M (cAt 26 (bo Tryz.f229)) j7A:=j0a follows j01 (Z8K j8x Z94) hnp [] oN [0,1,5] [] ([],[]) [(0,[1],[])] ([4],[]) λσ k _ h=>rN h λhn h=>rV h λa h0 h=>rV h λk_ h1 h=>rV h λi h5 h=>⟨_,Z9m (m:=22) hn (sC h0 (sC h1 (sC h5 sN))) bN,.trans (Z88 (λv:Int×Int=>(mkS 22 22 [(0,v1 y30 a .S),(1,vI v.1),(5,vI v.2)] [])) (j3D a) (λ(k:Z6O Unit)=>(((λ(k_1:Int)=>k (.exit 0) (mkS 22 22 [(1,vI k_1)] [])),(λ(_:Unit)=>k .ret (mkS 22 22 [(4,vI (-1))] []))):(Int->Res)×(Unit->Res))) (λv rec k=>by kernel_rfl) Z12 (k_,i) k) h⟩
noncomputable def j4E (a:List (List Int)) (k_:Int) (k0:Int->Res):Res:=
 j4V a Z12 k_ 0
  (λ(k_1:Int)=>
   k0 k_1)
  (λ(_:Unit)=>
   k0 (-1))
noncomputable def jcM:Sig Unit:=⟨[.look y30 false,.look tI false],[false],λvals ext k=>av vals y30 λa vals=>av vals tI λk_ vals=>nl vals<|nl ext<|j4E a k_ (λ(r0:Int)=>k [wI r0] [] [])⟩
theorem jco:Z1p Tryz.prog 229 jcM:=j02 (np:=0) follows j01 (Z8K j8x Z94) [j7A] (oI 26 0 (jbn) oN) false Tryz.func229 λ_ _ k _ h=>aV h λ_ _ _ _ _ h=>aV h λ_ _ _ _ _ h=>nL h λ_ h=>nL h λ_ h=>by subst_vars;exact .trans (by kernel_rfl) h
end Go.PI.G
namespace Go.PI.G
open Go Go.PI Go.Proofs
open Go.Code (pl pr)
noncomputable def j6m (a:List (List Int)) (b:List (List Int)) (k0:Bool->Res):Res:=
 j6n a b λ(r:Bool)=>
  bif !r then
   k0 false
  else
   k0 true
noncomputable def jbz:Sig Unit:=⟨[.look y30 true,.look y30 true],[false],λvals ext k=>av vals y30 λa vals=>av vals y30 λb vals=>nl vals<|nl ext<|j6m a b (λ(r0:Bool)=>k [wB r0] [] [])⟩
theorem jf8:Z1p Tryz.prog 146 jbz:=j02 (np:=0) follows j01 (Z8K jdA Z94) [] oN false Tryz.func146 λ_ _ k _ h=>aV h λ_ _ _ _ _ h=>aV h λ_ _ _ _ _ h=>nL h λ_ h=>nL h λ_ h=>by subst_vars;exact .trans (by kernel_rfl) h
noncomputable def j4b (a:List (List Int)) (k_:Int) (k0:Int->(List (List Int))->Res):Res:=
 j4G a k_ λ(r:Int) (a1:List (List Int))=>
  k0 r a1
noncomputable def jai:Sig Unit:=⟨[.inout y30 true,.borrow tI false],[false],λvals ext k=>ao vals y30 [.O] λa vals=>av vals tI λk_ vals=>nl vals<|nl ext<|j4b a k_ (λ(r0:Int) (i0:List (List Int))=>k [wI r0] [⟨y30,true,i0,[.O]⟩] [])⟩
theorem jdJ:Z1p Tryz.prog 154 jai:=j02 (np:=1) follows j01 (Z8K jcr Z94) [] oN false Tryz.func154 λ_ _ k _ h=>aO h λ_ _ _ _ h=>aV h λ_ _ _ _ _ h=>nL h λ_ h=>nL h λ_ h=>by subst_vars;exact .trans (by kernel_rfl) h
noncomputable def j44 (a:List (List Int)) (k_:Int) (k0:Int->Res):Res:=
 j4E a k_ λ(r:Int)=>
  bif decide (r<0) then
   k0 (-1)
  else
   k0 r
noncomputable def jae:Sig Unit:=⟨[.look y30 true,.look tI false],[false],λvals ext k=>av vals y30 λa vals=>av vals tI λk_ vals=>nl vals<|nl ext<|j44 a k_ (λ(r0:Int)=>k [wI r0] [] [])⟩
theorem jdF:Z1p Tryz.prog 159 jae:=j02 (np:=0) follows j01 (Z8K jco Z94) [] oN false Tryz.func159 λ_ _ k _ h=>aV h λ_ _ _ _ _ h=>aV h λ_ _ _ _ _ h=>nL h λ_ h=>nL h λ_ h=>by subst_vars;exact .trans (by kernel_rfl) h
end Go.PI.G
namespace Go.PI.G
open Go Go.PI Go.Proofs
open Go.Code (pl pr)
noncomputable def j4A (a:qG) (b:qG) (k0:Bool->Res):Res:=
 bif (a.1 != b.1) then
  k0 false
 else
  bif sNe a.2.1 b.2.1 then
   k0 false
  else
   j2Z a.2.2.1 b.2.2.1 λ(r:Bool)=>
    bif !r then
     k0 false
    else
     j0T a.2.2.2.1 b.2.2.2.1 λ(r1:Bool)=>
      bif !r1 then
       k0 false
      else
       bif sNe a.2.2.2.2.1 b.2.2.2.2.1 then
        k0 false
       else
        bif sNe a.2.2.2.2.2 b.2.2.2.2.2 then
         k0 false
        else
         k0 true
noncomputable def jbx:Sig Unit:=⟨[.look y14 true,.look y14 true],[false],λvals ext k=>av vals y14 λa vals=>av vals y14 λb vals=>nl vals<|nl ext<|j4A a b (λ(r0:Bool)=>k [wB r0] [] [])⟩
theorem jf6:Z1p Tryz.prog 296 jbx:=j02 (np:=0) follows j01 (Z8K j5x (Z8K jaK Z94)) [] oN false Tryz.func296 λ_ _ k _ h=>aV h λ_ _ _ _ _ h=>aV h λ_ _ _ _ _ h=>nL h λ_ h=>nL h λ_ h=>by subst_vars;exact .trans (by delta j4A j7L j5S;refine gz j2Z λ_ e=> ?_;rewrite [<-e];refine gz j0T λ_ e=> ?_;rewrite [<-e];kernel_rfl) h
end Go.PI.G
namespace Go.PI.G
open Go Go.PI Go.Proofs
open Go.Code (pl pr)
noncomputable def j5a (a:qS) (b:qS) (k0:Bool->Res):Res:=
 bif (a.1 != b.1) then
  k0 false
 else
  bif sNe a.2.1 b.2.1 then
   k0 false
  else
   j3w a.2.2.1 b.2.2.1 λ(r:Bool)=>
    bif !r then
     k0 false
    else
     j4C a.2.2.2.1 b.2.2.2.1 λ(r1:Bool)=>
      bif !r1 then
       k0 false
      else
       j4A a.2.2.2.2 b.2.2.2.2 λ(r2:Bool)=>
        bif !r2 then
         k0 false
        else
         k0 true
noncomputable def jeM:Sig Unit:=⟨[.look y18 true,.look y18 true],[false],λvals ext k=>av vals y18 λa vals=>av vals y18 λb vals=>nl vals<|nl ext<|j5a a b (λ(r0:Bool)=>k [wB r0] [] [])⟩
theorem jen:Z1p Tryz.prog 235 jeM:=j02 (np:=0) follows j01 (Z8K jaN (Z8K j8v (Z8K jf6 Z94))) [] oN false Tryz.func235 λ_ _ k _ h=>aV h λ_ _ _ _ _ h=>aV h λ_ _ _ _ _ h=>nL h λ_ h=>nL h λ_ h=>by subst_vars;exact .trans (by delta j5a jaZ jbA jbx;refine gz j3w λ_ e=> ?_;rewrite [<-e];refine gz j4C λ_ e=> ?_;rewrite [<-e];refine gz j4A λ_ e=> ?_;rewrite [<-e];kernel_rfl) h
end Go.PI.G
namespace Go.PI.G
open Go Go.PI Go.Proofs
open Go.Code (pl pr)
noncomputable def j8i (a:Int×Int×qS) (b:Int×Int×qS) (k0:Bool->Res):Res:=
 bif (a.1 != b.1) then
  k0 false
 else
  bif (a.2.1 != b.2.1) then
   k0 false
  else
   j5a a.2.2 b.2.2 λ(r:Bool)=>
    bif !r then
     k0 false
    else
     k0 true
noncomputable def jfE:Sig Unit:=⟨[.look y20 true,.look y20 true],[false],λvals ext k=>av vals y20 λa vals=>av vals y20 λb vals=>nl vals<|nl ext<|j8i a b (λ(r0:Bool)=>k [wB r0] [] [])⟩
theorem jbb:Z1p Tryz.prog 165 jfE:=j02 (np:=0) follows j01 (Z8K jen Z94) [] oN false Tryz.func165 λ_ _ k _ h=>aV h λ_ _ _ _ _ h=>aV h λ_ _ _ _ _ h=>nL h λ_ h=>nL h λ_ h=>by subst_vars;exact .trans (by kernel_rfl) h
end Go.PI.G
