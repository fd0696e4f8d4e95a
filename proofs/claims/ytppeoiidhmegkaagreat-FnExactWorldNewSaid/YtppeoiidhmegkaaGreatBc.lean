/-
  Program's code interpreted over typed values; printed texts; plain laws. No conditions.
-/
import Derived.Test.YtppeoiidhmegkaaGreatBa
import Derived.Test.YtppeoiidhmegkaaGreatBb
set_option linter.unusedVariables false
set_option maxRecDepth 100000
namespace Go.PI.G
open Go Go.PI Go.Proofs
open Go.Code (pl pr)
noncomputable def j2l (a:List qC) (left:Int) (i:Int) (rec:Int->Int->Res) (k0:Int->Res) (k1:Unit->Res):Res:=
 bif decide (i<(nI (List.length a))) then
  bif inb i (List.length a) then
   j8j (nth (eS,0,false,false,0,0,eS) a i) left λ(r:Int)=>
    bif decide (r<0) then
     k1 ()
    else
     rec r (Z8o (i+1))
  else none
 else
  k0 left
noncomputable def j8M (a:List qC):(Int×Int)->(Int×Int->Res)->((Int->Res)×(Unit->Res))->Res:=λv rec q=>j2l a v.1 v.2 (λleft i=>rec (left,i)) q.1 q.2
noncomputable def j4H (a:List qC) (n:Nat) (left:Int) (i:Int) (k0:Int->Res) (k1:Unit->Res):Res:=Z14 (j8M a) n (left,i) (k0,k1)
noncomputable def j9D:Z1q Unit:=λσ k=>rdN σ 27<|rd1 σ 0 y9 .S λa=>rdI σ 1 λleft=>rdI σ 5 λi=>j4H a Z12 left i (λ(left1:Int)=>k (.exit 0) (mkS 27 27 [(1,vI left1)] [])) (λ(_:Unit)=>k .ret (mkS 27 27 [(4,vI (-1))] []))
theorem jdc {W0:Base} {M:Nat->Prop} (hnp:W0.np<=0):Z22 Tryz.prog W0 M (cAt 122 (bo Tryz.f327)) j9D:=j0a follows j01 (Z8K jbc Z94) hnp [] oN [0,1,5] [] ([],[]) [(0,[1],[])] ([4],[]) λσ k _ h=>rN h λhn h=>rV h λa h0 h=>rV h λleft h1 h=>rV h λi h5 h=>⟨_,Z9m (m:=27) hn (sC h0 (sC h1 (sC h5 sN))) bN,.trans (Z88 (λv:Int×Int=>(mkS 27 27 [(0,v1 y9 a .S),(1,vI v.1),(5,vI v.2)] [])) (j8M a) (λ(k:Z6O Unit)=>(((λ(left1:Int)=>k (.exit 0) (mkS 27 27 [(1,vI left1)] [])),(λ(_:Unit)=>k .ret (mkS 27 27 [(4,vI (-1))] []))):(Int->Res)×(Unit->Res))) (λv rec k=>by kernel_rfl) Z12 (left,i) k) h⟩
noncomputable def j5c (a:List qC) (left:Int) (k0:Int->Res):Res:=
 bif decide ((Z8o (left-(nI (List.length a))))<0) then
  k0 (-1)
 else
  j4H a Z12 (Z8o (left-(nI (List.length a)))) 0
   (λ(left1:Int)=>
    k0 left1)
   (λ(_:Unit)=>
    k0 (-1))
noncomputable def jb0:Sig Unit:=⟨[.look y9 false,.look tI false],[false],λvals ext k=>av vals y9 λa vals=>av vals tI λleft vals=>nl vals<|nl ext<|j5c a left (λ(r0:Int)=>k [wI r0] [] [])⟩
theorem jep:Z1p Tryz.prog 327 jb0:=j02 (np:=0) follows j01 (Z8K jbc Z94) [j9D] (oI 122 0 (jdc) oN) false Tryz.func327 λ_ _ k _ h=>aV h λ_ _ _ _ _ h=>aV h λ_ _ _ _ _ h=>nL h λ_ h=>nL h λ_ h=>by subst_vars;exact .trans (by kernel_rfl) h
noncomputable def j2o (a:List qC) (out:List qC) (i:Int) (rec:qE->Int->Res) (k0:qE->Res):Res:=
 bif decide (i<(nI (List.length a))) then
  bif inb i (List.length a) then
   j8l (nth (eS,0,false,false,0,0,eS) a i) λ(r:qB×Int×Bool×Bool×Int×Int×qB)=>
    bif inb i (List.length out) then
     rec (upd out i r) (Z8o (i+1))
    else none
  else none
 else
  k0 out
noncomputable def j5O (a:List qC):(qE×Int)->(qE×Int->Res)->((qE->Res))->Res:=λv rec q=>j2o a v.1 v.2 (λout i=>rec (out,i)) q
noncomputable def ja5 (a:List qC) (n:Nat) (out:List qC) (i:Int) (k0:qE->Res):Res:=Z14 (j5O a) n (out,i) (k0)
noncomputable def j9G:Z1q Unit:=λσ k=>rdN σ 23<|rd1 σ 0 y9 .S λa=>rd1 σ 3 y9 .O λout=>rdI σ 4 λi=>ja5 a Z12 out i (λ(out1:List qC)=>k (.exit 0) (mkS 23 23 [(3,v1 y9 out1 .O)] []))
theorem jdf {W0:Base} {M:Nat->Prop} (hnp:W0.np<=0):Z22 Tryz.prog W0 M (cAt 58 (bo Tryz.f330)) j9G:=j0a follows j01 (Z8K jbe Z94) hnp [] oN [0,3,4] [] ([],[]) [(0,[3],[])] ([],[]) λσ k _ h=>rN h λhn h=>rV h λa h0 h=>rV h λout h3 h=>rV h λi h4 h=>⟨_,Z9m (m:=23) hn (sC h0 (sC h3 (sC h4 sN))) bN,.trans (Z88 (λv:qE×Int=>(mkS 23 23 [(0,v1 y9 a .S),(3,v1 y9 v.1 .O),(4,vI v.2)] [])) (j5O a) (λ(k:Z6O Unit)=>(((λ(out1:List qC)=>k (.exit 0) (mkS 23 23 [(3,v1 y9 out1 .O)] []))):(qE->Res))) (λv rec k=>by kernel_rfl) Z12 (out,i) k) h⟩
noncomputable def j5d (a:List qC) (k0:qE->Res):Res:=
 bif Z8m (nI (List.length a)) (nI (List.length a)) then
  ja5 a Z12 (Z7Y (nI (List.length a)) (eS,0,false,false,0,0,eS)) 0 λ(out:List qC)=>
   k0 out
 else none
noncomputable def jb1:Sig Unit:=⟨[.borrow y9 false],[false],λvals ext k=>av vals y9 λa vals=>nl vals<|nl ext<|j5d a (λ(r0:List qC)=>k [w1 y9 r0 .O] [] [])⟩
theorem jes:Z1p Tryz.prog 330 jb1:=j02 (np:=0) follows j01 (Z8K jbe Z94) [j9G] (oI 58 0 (jdf) oN) false Tryz.func330 λ_ _ k _ h=>aV h λ_ _ _ _ _ h=>nL h λ_ h=>nL h λ_ h=>by subst_vars;exact .trans (by kernel_rfl) h
noncomputable def j25 (a:List qC) (b:List qC) (i:Int) (rec:Int->Res) (k0:Unit->Res) (k1:Unit->Res):Res:=
 bif decide (i<(nI (List.length a))) then
  bif inb i (List.length a) then
   bif inb i (List.length b) then
    j8h (nth (eS,0,false,false,0,0,eS) a i) (nth (eS,0,false,false,0,0,eS) b i) λ(r:Bool)=>
     bif !r then
      k1 ()
     else
      rec (Z8o (i+1))
   else none
  else none
 else
  k0 ()
noncomputable def j8H (a:List qC) (b:List qC):Int->(Int->Res)->((Unit->Res)×(Unit->Res))->Res:=λv rec q=>j25 a b v (λi=>rec (i)) q.1 q.2
noncomputable def j72 (a:List qC) (b:List qC) (n:Nat) (i:Int) (k0:Unit->Res) (k1:Unit->Res):Res:=Z14 (j8H a b) n (i) (k0,k1)
noncomputable def j9y:Z1q Unit:=λσ k=>rdN σ 27<|rd1 σ 0 y9 .S λa=>rd1 σ 1 y9 .S λb=>rdI σ 5 λi=>j72 a b Z12 i (λ(_:Unit)=>k (.exit 0) (mkS 27 27 [] [])) (λ(_:Unit)=>k .ret (mkS 27 27 [(4,vB false)] []))
theorem jd7 {W0:Base} {M:Nat->Prop} (hnp:W0.np<=0):Z22 Tryz.prog W0 M (cAt 58 (bo Tryz.f333)) j9y:=j0a follows j01 (Z8K jb9 Z94) hnp [] oN [0,1,5] [] ([],[]) [(0,[],[])] ([4],[]) λσ k _ h=>rN h λhn h=>rV h λa h0 h=>rV h λb h1 h=>rV h λi h5 h=>⟨_,Z9m (m:=27) hn (sC h0 (sC h1 (sC h5 sN))) bN,.trans (Z88 (λv:Int=>(mkS 27 27 [(0,v1 y9 a .S),(1,v1 y9 b .S),(5,vI v)] [])) (j8H a b) (λ(k:Z6O Unit)=>(((λ(_:Unit)=>k (.exit 0) (mkS 27 27 [] [])),(λ(_:Unit)=>k .ret (mkS 27 27 [(4,vB false)] []))):(Unit->Res)×(Unit->Res))) (λv rec k=>by kernel_rfl) Z12 (i) k) h⟩
noncomputable def j2Z (a:List qC) (b:List qC) (k0:Bool->Res):Res:=
 bif ((nI (List.length a)) != (nI (List.length b))) then
  k0 false
 else
  j72 a b Z12 0
   (λ(_:Unit)=>
    k0 true)
   (λ(_:Unit)=>
    k0 false)
noncomputable def j7L:Sig Unit:=⟨[.look y9 false,.look y9 false],[false],λvals ext k=>av vals y9 λa vals=>av vals y9 λb vals=>nl vals<|nl ext<|j2Z a b (λ(r0:Bool)=>k [wB r0] [] [])⟩
theorem jaK:Z1p Tryz.prog 333 j7L:=j02 (np:=0) follows j01 (Z8K jb9 Z94) [j9y] (oI 58 0 (jd7) oN) false Tryz.func333 λ_ _ k _ h=>aV h λ_ _ _ _ _ h=>aV h λ_ _ _ _ _ h=>nL h λ_ h=>nL h λ_ h=>by subst_vars;exact .trans (by kernel_rfl) h
noncomputable def j2a (a:List qC) (k_:Int) (i:Int) (k0:qE->Res):Res:=
 bif inb i (List.length a) then
  k0 (upd a i ((nth (eS,0,false,false,0,0,eS) a i).1,(nth (eS,0,false,false,0,0,eS) a i).2.1,((Int.tmod k_ 3)==0),(nth (eS,0,false,false,0,0,eS) a i).2.2.2))
 else none
noncomputable def j16:Z1q Unit:=λσ k=>rdN σ 71<|rd1 σ 0 y9 .O λa=>rdI σ 1 λk_=>rdI σ 5 λi=>j2a a k_ i (λ(a1:List qC)=>k .normal (mkS 71 71 [(0,v1 y9 a1 .O),(1,vI k_),(5,vI i)] []))
theorem jbU {W0:Base} {M:Nat->Prop} (hnp:W0.np<=1):Z22 Tryz.prog W0 M (cAt 13470 (bo Tryz.f177)) j16:=j3O follows j01 (Z8K j0f Z94) hnp [] oN ([0,1,5],[]) [] ([],[]) λσ k _ h=>rN h λhn h=>rV h λa h0 h=>rV h λk_ h1 h=>rV h λi h5 h=>⟨_,Z9m (m:=71) hn (sC h0 (sC h1 (sC h5 sN))) bN,.trans (by kernel_rfl) h⟩
noncomputable def j2b (a:List qC) (k_:Int) (i:Int) (k0:qE->Res):Res:=
 bif inb i (List.length a) then
  k0 (upd a i ((nth (eS,0,false,false,0,0,eS) a i).1,(nth (eS,0,false,false,0,0,eS) a i).2.1,(nth (eS,0,false,false,0,0,eS) a i).2.2.1,(nth (eS,0,false,false,0,0,eS) a i).2.2.2.1,k_,(nth (eS,0,false,false,0,0,eS) a i).2.2.2.2.2))
 else none
noncomputable def j1R:Z1q Unit:=λσ k=>rdN σ 71<|rd1 σ 0 y9 .O λa=>rdI σ 1 λk_=>rdI σ 5 λi=>j2b a k_ i (λ(a1:List qC)=>k .normal (mkS 71 71 [(0,v1 y9 a1 .O),(1,vI k_),(5,vI i)] []))
theorem jbV {W0:Base} {M:Nat->Prop} (hnp:W0.np<=1):Z22 Tryz.prog W0 M (cAt 215550 (bo Tryz.f177)) j1R:=j3O follows j01 (Z8K j0f Z94) hnp [j16] oN ([0,1,5],[]) [] ([],[]) λσ k _ h=>rN h λhn h=>rV h λa h0 h=>rV h λk_ h1 h=>rV h λi h5 h=>⟨_,Z9m (m:=71) hn (sC h0 (sC h1 (sC h5 sN))) bN,.trans (by kernel_rfl) h⟩
noncomputable def j2c (a:List qC) (k_:Int) (i:Int) (k0:qE->Res):Res:=
 j0b k_ λ(r:qB)=>
  bif inb i (List.length a) then
   k0 (upd a i ((nth (eS,0,false,false,0,0,eS) a i).1,(nth (eS,0,false,false,0,0,eS) a i).2.1,(nth (eS,0,false,false,0,0,eS) a i).2.2.1,(nth (eS,0,false,false,0,0,eS) a i).2.2.2.1,(nth (eS,0,false,false,0,0,eS) a i).2.2.2.2.1,(nth (eS,0,false,false,0,0,eS) a i).2.2.2.2.2.1,r))
  else none
noncomputable def j34:Z1q Unit:=λσ k=>rdN σ 71<|rd1 σ 0 y9 .O λa=>rdI σ 1 λk_=>rdI σ 5 λi=>j2c a k_ i (λ(a1:List qC)=>k .normal (mkS 71 71 [(0,v1 y9 a1 .O),(1,vI k_),(5,vI i)] []))
theorem jbW {W0:Base} {M:Nat->Prop} (hnp:W0.np<=1):Z22 Tryz.prog W0 M (cAt 3448830 (bo Tryz.f177)) j34:=j3O follows j01 (Z8K j0f Z94) hnp [j16,j1R] oN ([0,1,5],[]) [] ([],[]) λσ k _ h=>rN h λhn h=>rV h λa h0 h=>rV h λk_ h1 h=>rV h λi h5 h=>⟨_,Z9m (m:=71) hn (sC h0 (sC h1 (sC h5 sN))) bN,.trans (by kernel_rfl) h⟩
noncomputable def j0X (a:List qC) (k_:Int) (i:Int) (rec:qE->Int->Int->Res) (k0:qE->Int->Res):Res:=
 bif decide (i<(nI (List.length a))) then
  j0b k_ λ(r:qB)=>
   bif inb i (List.length a) then
    bif inb i (List.length (upd a i (r,(nth (eS,0,false,false,0,0,eS) a i).2))) then
     j2a (upd (upd a i (r,(nth (eS,0,false,false,0,0,eS) a i).2)) i ((nth (eS,0,false,false,0,0,eS) (upd a i (r,(nth (eS,0,false,false,0,0,eS) a i).2)) i).1,Z8o (k_+1),(nth (eS,0,false,false,0,0,eS) (upd a i (r,(nth (eS,0,false,false,0,0,eS) a i).2)) i).2.2)) (Z8o ((Z8o (k_+1))+1)) i λ(a1:List qC)=>
      bif inb i (List.length a1) then
       j2b (upd a1 i ((nth (eS,0,false,false,0,0,eS) a1 i).1,(nth (eS,0,false,false,0,0,eS) a1 i).2.1,(nth (eS,0,false,false,0,0,eS) a1 i).2.2.1,((Int.tmod (Z8o ((Z8o ((Z8o (k_+1))+1))+1)) 3)==0),(nth (eS,0,false,false,0,0,eS) a1 i).2.2.2.2)) (Z8o ((Z8o ((Z8o ((Z8o (k_+1))+1))+1))+1)) i λ(a2:List qC)=>
        bif inb i (List.length a2) then
         j2c (upd a2 i ((nth (eS,0,false,false,0,0,eS) a2 i).1,(nth (eS,0,false,false,0,0,eS) a2 i).2.1,(nth (eS,0,false,false,0,0,eS) a2 i).2.2.1,(nth (eS,0,false,false,0,0,eS) a2 i).2.2.2.1,(nth (eS,0,false,false,0,0,eS) a2 i).2.2.2.2.1,Z8o ((Z8o ((Z8o ((Z8o ((Z8o (k_+1))+1))+1))+1))+1),(nth (eS,0,false,false,0,0,eS) a2 i).2.2.2.2.2.2)) (Z8o ((Z8o ((Z8o ((Z8o ((Z8o ((Z8o (k_+1))+1))+1))+1))+1))+1)) i λ(a3:List qC)=>
          rec a3 (Z8o ((Z8o ((Z8o ((Z8o ((Z8o ((Z8o ((Z8o (k_+1))+1))+1))+1))+1))+1))+1)) (Z8o (i+1))
        else none
      else none
    else none
   else none
 else
  k0 a k_
noncomputable def j2L:(qE×Int×Int)->(qE×Int×Int->Res)->((qE->Int->Res))->Res:=λv rec q=>j0X v.1 v.2.1 v.2.2 (λa k_ i=>rec (a,k_,i)) q
noncomputable def j5I (n:Nat) (a:List qC) (k_:Int) (i:Int) (k0:qE->Int->Res):Res:=Z14 (j2L) n (a,k_,i) (k0)
noncomputable def j87:Z1q Unit:=λσ k=>rdN σ 71<|rd1 σ 0 y9 .O λa=>rdI σ 1 λk_=>rdI σ 5 λi=>j5I Z12 a k_ i (λ(a4:List qC) (k_1:Int)=>k (.exit 0) (mkS 71 71 [(0,v1 y9 a4 .O),(1,vI k_1)] []))
theorem jbT {W0:Base} {M:Nat->Prop} (hnp:W0.np<=1):Z22 Tryz.prog W0 M (cAt 26 (bo Tryz.f177)) j87:=j0a follows j01 (Z8K j0f Z94) hnp [j16,j1R,j34] (oI 414 0 (jbU) (oI 6654 1 (jbV) (oI 106494 2 (jbW) oN))) [0,1,5] [] ([],[]) [(0,[0,1],[])] ([],[]) λσ k _ h=>rN h λhn h=>rV h λa h0 h=>rV h λk_ h1 h=>rV h λi h5 h=>⟨_,Z9m (m:=71) hn (sC h0 (sC h1 (sC h5 sN))) bN,.trans (Z88 (λv:qE×Int×Int=>(mkS 71 71 [(0,v1 y9 v.1 .O),(1,vI v.2.1),(5,vI v.2.2)] [])) (j2L) (λ(k:Z6O Unit)=>(((λ(a4:List qC) (k_1:Int)=>k (.exit 0) (mkS 71 71 [(0,v1 y9 a4 .O),(1,vI k_1)] []))):(qE->Int->Res))) (λv rec k=>by delta j2L j0X j0t j16 j1R j34;refine gz j0b λ_ e=> ?_;rewrite [<-e];refine gz j2a λ_ e=> ?_;rewrite [<-e];refine gz j2b λ_ e=> ?_;rewrite [<-e];refine gz j2c λ_ e=> ?_;rewrite [<-e];kernel_rfl) Z12 (a,k_,i) k) h⟩
noncomputable def j2y (a:List qC) (k_:Int) (k0:Int->qE->Res):Res:=
 j5I Z12 a k_ 0 λ(a1:List qC) (k_1:Int)=>
  k0 k_1 a1
noncomputable def j3Q:Sig Unit:=⟨[.inout y9 false,.borrow tI false],[false],λvals ext k=>ao vals y9 [.O] λa vals=>av vals tI λk_ vals=>nl vals<|nl ext<|j2y a k_ (λ(r0:Int) (i0:List qC)=>k [wI r0] [w1 y9 i0 .O] [])⟩
theorem j9p:Z1p Tryz.prog 177 j3Q:=j02 (np:=1) follows j01 (Z8K j0f Z94) [j16,j1R,j34,j87] (oI 26 3 (jbT) oN) false Tryz.func177 λ_ _ k _ h=>aO h λ_ _ _ _ h=>aV h λ_ _ _ _ _ h=>nL h λ_ h=>nL h λ_ h=>by subst_vars;exact .trans (by kernel_rfl) h
noncomputable def j0U (a:List qC) (k_:Int) (i:Int) (rec:Int->Int->Res) (k0:Int->Res) (k1:Unit->Res):Res:=
 bif decide (i<(nI (List.length a))) then
  bif inb i (List.length a) then
   j0b k_ λ(r:qB)=>
    bif sNe (nth (eS,0,false,false,0,0,eS) a i).1 r then
     k1 ()
    else
     bif inb i (List.length a) then
      bif ((nth (eS,0,false,false,0,0,eS) a i).2.1 != (Z8o (k_+1))) then
       k1 ()
      else
       bif inb i (List.length a) then
        bif !((nth (eS,0,false,false,0,0,eS) a i).2.2.1==((Int.tmod (Z8o ((Z8o (k_+1))+1)) 3)==0)) then
         k1 ()
        else
         bif inb i (List.length a) then
          bif !((nth (eS,0,false,false,0,0,eS) a i).2.2.2.1==((Int.tmod (Z8o ((Z8o ((Z8o (k_+1))+1))+1)) 3)==0)) then
           k1 ()
          else
           bif inb i (List.length a) then
            bif ((nth (eS,0,false,false,0,0,eS) a i).2.2.2.2.1 != (Z8o ((Z8o ((Z8o ((Z8o (k_+1))+1))+1))+1))) then
             k1 ()
            else
             bif inb i (List.length a) then
              bif ((nth (eS,0,false,false,0,0,eS) a i).2.2.2.2.2.1 != (Z8o ((Z8o ((Z8o ((Z8o ((Z8o (k_+1))+1))+1))+1))+1))) then
               k1 ()
              else
               bif inb i (List.length a) then
                j0b (Z8o ((Z8o ((Z8o ((Z8o ((Z8o ((Z8o (k_+1))+1))+1))+1))+1))+1)) λ(r1:qB)=>
                 bif sNe (nth (eS,0,false,false,0,0,eS) a i).2.2.2.2.2.2 r1 then
                  k1 ()
                 else
                  rec (Z8o ((Z8o ((Z8o ((Z8o ((Z8o ((Z8o ((Z8o (k_+1))+1))+1))+1))+1))+1))+1)) (Z8o (i+1))
               else none
             else none
           else none
         else none
       else none
     else none
  else none
 else
  k0 k_
noncomputable def j2J (a:List qC):(Int×Int)->(Int×Int->Res)->((Int->Res)×(Unit->Res))->Res:=λv rec q=>j0U a v.1 v.2 (λk_ i=>rec (k_,i)) q.1 q.2
noncomputable def j5D (a:List qC) (n:Nat) (k_:Int) (i:Int) (k0:Int->Res) (k1:Unit->Res):Res:=Z14 (j2J a) n (k_,i) (k0,k1)
noncomputable def j82:Z1q Unit:=λσ k=>rdN σ 85<|rd1 σ 0 y9 .S λa=>rdI σ 1 λk_=>rdI σ 5 λi=>j5D a Z12 k_ i (λ(k_1:Int)=>k (.exit 0) (mkS 85 85 [(1,vI k_1)] [])) (λ(_:Unit)=>k .ret (mkS 85 85 [(4,vI (-1))] []))
theorem jbO {W0:Base} {M:Nat->Prop} (hnp:W0.np<=0):Z22 Tryz.prog W0 M (cAt 26 (bo Tryz.f179)) j82:=j0a follows j01 (Z8K j0f Z94) hnp [] oN [0,1,5] [] ([],[]) [(0,[1],[])] ([4],[]) λσ k _ h=>rN h λhn h=>rV h λa h0 h=>rV h λk_ h1 h=>rV h λi h5 h=>⟨_,Z9m (m:=85) hn (sC h0 (sC h1 (sC h5 sN))) bN,.trans (Z88 (λv:Int×Int=>(mkS 85 85 [(0,v1 y9 a .S),(1,vI v.1),(5,vI v.2)] [])) (j2J a) (λ(k:Z6O Unit)=>(((λ(k_1:Int)=>k (.exit 0) (mkS 85 85 [(1,vI k_1)] [])),(λ(_:Unit)=>k .ret (mkS 85 85 [(4,vI (-1))] []))):(Int->Res)×(Unit->Res))) (λv rec k=>by delta j2J j0U j0t;refine gz j0b λ_ e=> ?_;rewrite [<-e];kernel_rfl) Z12 (k_,i) k) h⟩
noncomputable def j1A (a:List qC) (k_:Int) (k0:Int->Res):Res:=
 j5D a Z12 k_ 0
  (λ(k_1:Int)=>
   k0 k_1)
  (λ(_:Unit)=>
   k0 (-1))
noncomputable def j2O:Sig Unit:=⟨[.look y9 false,.look tI false],[false],λvals ext k=>av vals y9 λa vals=>av vals tI λk_ vals=>nl vals<|nl ext<|j1A a k_ (λ(r0:Int)=>k [wI r0] [] [])⟩
theorem j9n:Z1p Tryz.prog 179 j2O:=j02 (np:=0) follows j01 (Z8K j0f Z94) [j82] (oI 26 0 (jbO) oN) false Tryz.func179 λ_ _ k _ h=>aV h λ_ _ _ _ _ h=>aV h λ_ _ _ _ _ h=>nL h λ_ h=>nL h λ_ h=>by subst_vars;exact .trans (by kernel_rfl) h
end Go.PI.G
namespace Go.PI.G
open Go Go.PI Go.Proofs
open Go.Code (pl pr)
noncomputable def j1f (a:qL) (left:Int) (i:Int) (rec:Int->Int->Res) (k0:Int->Res) (k1:Unit->Res):Res:=
 bif decide (i<(nI (List.length a))) then
  bif inb i (List.length a) then
   bif decide ((Z8o (left-(nI (ByteArray.size (nth eS a i)))))<0) then
    k1 ()
   else
    rec (Z8o (left-(nI (ByteArray.size (nth eS a i))))) (Z8o (i+1))
  else none
 else
  k0 left
noncomputable def j6V (a:qL):(Int×Int)->(Int×Int->Res)->((Int->Res)×(Unit->Res))->Res:=λv rec q=>j1f a v.1 v.2 (λleft i=>rec (left,i)) q.1 q.2
noncomputable def j32 (a:qL) (n:Nat) (left:Int) (i:Int) (k0:Int->Res) (k1:Unit->Res):Res:=Z14 (j6V a) n (left,i) (k0,k1)
noncomputable def j7F:Z1q Unit:=λσ k=>rdN σ 28<|rd1 σ 0 y1 .S λa=>rdI σ 1 λleft=>rdI σ 5 λi=>j32 a Z12 left i (λ(left1:Int)=>k (.exit 0) (mkS 28 28 [(1,vI left1)] [])) (λ(_:Unit)=>k .ret (mkS 28 28 [(4,vI (-1))] []))
theorem jbs {W0:Base} {M:Nat->Prop} (hnp:W0.np<=0):Z22 Tryz.prog W0 M (cAt 122 (bo Tryz.f76)) j7F:=j0a follows j01 Z94 hnp [] oN [0,1,5] [] ([],[]) [(0,[1],[])] ([4],[]) λσ k _ h=>rN h λhn h=>rV h λa h0 h=>rV h λleft h1 h=>rV h λi h5 h=>⟨_,Z9m (m:=28) hn (sC h0 (sC h1 (sC h5 sN))) bN,.trans (Z88 (λv:Int×Int=>(mkS 28 28 [(0,v1 y1 a .S),(1,vI v.1),(5,vI v.2)] [])) (j6V a) (λ(k:Z6O Unit)=>(((λ(left1:Int)=>k (.exit 0) (mkS 28 28 [(1,vI left1)] [])),(λ(_:Unit)=>k .ret (mkS 28 28 [(4,vI (-1))] []))):(Int->Res)×(Unit->Res))) (λv rec k=>by kernel_rfl) Z12 (left,i) k) h⟩
noncomputable def j21 (a:qL) (left:Int) (k0:Int->Res):Res:=
 bif decide ((Z8o (left-(nI (List.length a))))<0) then
  k0 (-1)
 else
  j32 a Z12 (Z8o (left-(nI (List.length a)))) 0
   (λ(left1:Int)=>
    k0 left1)
   (λ(_:Unit)=>
    k0 (-1))
noncomputable def j95:Sig Unit:=⟨[.look y1 false,.look tI false],[false],λvals ext k=>av vals y1 λa vals=>av vals tI λleft vals=>nl vals<|nl ext<|j21 a left (λ(r0:Int)=>k [wI r0] [] [])⟩
theorem j8z:Z1p Tryz.prog 76 j95:=j02 (np:=0) follows j01 Z94 [j7F] (oI 122 0 (jbs) oN) false Tryz.func76 λ_ _ k _ h=>aV h λ_ _ _ _ _ h=>aV h λ_ _ _ _ _ h=>nL h λ_ h=>nL h λ_ h=>by subst_vars;exact .trans (by kernel_rfl) h
noncomputable def j1g (a:qL) (out:qL) (i:Int) (rec:qL->Int->Res) (k0:qL->Res):Res:=
 bif decide (i<(nI (List.length a))) then
  bif inb i (List.length a) then
   bif inb i (List.length out) then
    rec (upd out i (nth eS a i)) (Z8o (i+1))
   else none
  else none
 else
  k0 out
noncomputable def j3K (a:qL):(qL×Int)->(qL×Int->Res)->((qL->Res))->Res:=λv rec q=>j1g a v.1 v.2 (λout i=>rec (out,i)) q
noncomputable def j7Z (a:qL) (n:Nat) (out:qL) (i:Int) (k0:qL->Res):Res:=Z14 (j3K a) n (out,i) (k0)
noncomputable def j7G:Z1q Unit:=λσ k=>rdN σ 22<|rd1 σ 0 y1 .S λa=>rd1 σ 3 y1 .O λout=>rdI σ 4 λi=>j7Z a Z12 out i (λ(out1:qL)=>k (.exit 0) (mkS 22 22 [(3,v1 y1 out1 .O)] []))
theorem jbt {W0:Base} {M:Nat->Prop} (hnp:W0.np<=0):Z22 Tryz.prog W0 M (cAt 58 (bo Tryz.f81)) j7G:=j0a follows j01 Z94 hnp [] oN [0,3,4] [] ([],[]) [(0,[3],[])] ([],[]) λσ k _ h=>rN h λhn h=>rV h λa h0 h=>rV h λout h3 h=>rV h λi h4 h=>⟨_,Z9m (m:=22) hn (sC h0 (sC h3 (sC h4 sN))) bN,.trans (Z88 (λv:qL×Int=>(mkS 22 22 [(0,v1 y1 a .S),(3,v1 y1 v.1 .O),(4,vI v.2)] [])) (j3K a) (λ(k:Z6O Unit)=>(((λ(out1:qL)=>k (.exit 0) (mkS 22 22 [(3,v1 y1 out1 .O)] []))):(qL->Res))) (λv rec k=>by kernel_rfl) Z12 (out,i) k) h⟩
noncomputable def j22 (a:qL) (k0:qL->Res):Res:=
 bif Z8m (nI (List.length a)) (nI (List.length a)) then
  j7Z a Z12 (Z7Y (nI (List.length a)) eS) 0 λ(out:qL)=>
   k0 out
 else none
noncomputable def j96:Sig Unit:=⟨[.borrow y1 false],[false],λvals ext k=>av vals y1 λa vals=>nl vals<|nl ext<|j22 a (λ(r0:qL)=>k [w1 y1 r0 .O] [] [])⟩
theorem j8B:Z1p Tryz.prog 81 j96:=j02 (np:=0) follows j01 Z94 [j7G] (oI 58 0 (jbt) oN) false Tryz.func81 λ_ _ k _ h=>aV h λ_ _ _ _ _ h=>nL h λ_ h=>nL h λ_ h=>by subst_vars;exact .trans (by kernel_rfl) h
noncomputable def j18 (a:qL) (b:qL) (i:Int) (rec:Int->Res) (k0:Unit->Res) (k1:Unit->Res):Res:=
 bif decide (i<(nI (List.length a))) then
  bif inb i (List.length a) then
   bif inb i (List.length b) then
    bif sNe (nth eS a i) (nth eS b i) then
     k1 ()
    else
     rec (Z8o (i+1))
   else none
  else none
 else
  k0 ()
noncomputable def j6U (a:qL) (b:qL):Int->(Int->Res)->((Unit->Res)×(Unit->Res))->Res:=λv rec q=>j18 a b v (λi=>rec (i)) q.1 q.2
noncomputable def j4T (a:qL) (b:qL) (n:Nat) (i:Int) (k0:Unit->Res) (k1:Unit->Res):Res:=Z14 (j6U a b) n (i) (k0,k1)
noncomputable def j7y:Z1q Unit:=λσ k=>rdN σ 26<|rd1 σ 0 y1 .S λa=>rd1 σ 1 y1 .S λb=>rdI σ 5 λi=>j4T a b Z12 i (λ(_:Unit)=>k (.exit 0) (mkS 26 26 [] [])) (λ(_:Unit)=>k .ret (mkS 26 26 [(4,vB false)] []))
theorem jbl {W0:Base} {M:Nat->Prop} (hnp:W0.np<=0):Z22 Tryz.prog W0 M (cAt 58 (bo Tryz.f89)) j7y:=j0a follows j01 Z94 hnp [] oN [0,1,5] [] ([],[]) [(0,[],[])] ([4],[]) λσ k _ h=>rN h λhn h=>rV h λa h0 h=>rV h λb h1 h=>rV h λi h5 h=>⟨_,Z9m (m:=26) hn (sC h0 (sC h1 (sC h5 sN))) bN,.trans (Z88 (λv:Int=>(mkS 26 26 [(0,v1 y1 a .S),(1,v1 y1 b .S),(5,vI v)] [])) (j6U a b) (λ(k:Z6O Unit)=>(((λ(_:Unit)=>k (.exit 0) (mkS 26 26 [] [])),(λ(_:Unit)=>k .ret (mkS 26 26 [(4,vB false)] []))):(Unit->Res)×(Unit->Res))) (λv rec k=>by kernel_rfl) Z12 (i) k) h⟩
noncomputable def j0T (a:qL) (b:qL) (k0:Bool->Res):Res:=
 bif ((nI (List.length a)) != (nI (List.length b))) then
  k0 false
 else
  j4T a b Z12 0
   (λ(_:Unit)=>
    k0 true)
   (λ(_:Unit)=>
    k0 false)
noncomputable def j5S:Sig Unit:=⟨[.look y1 false,.look y1 false],[false],λvals ext k=>av vals y1 λa vals=>av vals y1 λb vals=>nl vals<|nl ext<|j0T a b (λ(r0:Bool)=>k [wB r0] [] [])⟩
theorem j5x:Z1p Tryz.prog 89 j5S:=j02 (np:=0) follows j01 Z94 [j7y] (oI 58 0 (jbl) oN) false Tryz.func89 λ_ _ k _ h=>aV h λ_ _ _ _ _ h=>aV h λ_ _ _ _ _ h=>nL h λ_ h=>nL h λ_ h=>by subst_vars;exact .trans (by kernel_rfl) h
noncomputable def j0Z (a:qL) (k_:Int) (i:Int) (rec:qL->Int->Int->Res) (k0:qL->Int->Res):Res:=
 bif decide (i<(nI (List.length a))) then
  j0b k_ λ(r:qB)=>
   bif inb i (List.length a) then
    rec (upd a i r) (Z8o (k_+1)) (Z8o (i+1))
   else none
 else
  k0 a k_
noncomputable def j3e:(qL×Int×Int)->(qL×Int×Int->Res)->((qL->Int->Res))->Res:=λv rec q=>j0Z v.1 v.2.1 v.2.2 (λa k_ i=>rec (a,k_,i)) q
noncomputable def j3J (n:Nat) (a:qL) (k_:Int) (i:Int) (k0:qL->Int->Res):Res:=Z14 (j3e) n (a,k_,i) (k0)
noncomputable def j6S:Z1q Unit:=λσ k=>rdN σ 20<|rd1 σ 0 y1 .O λa=>rdI σ 1 λk_=>rdI σ 5 λi=>j3J Z12 a k_ i (λ(a1:qL) (k_1:Int)=>k (.exit 0) (mkS 20 20 [(0,v1 y1 a1 .O),(1,vI k_1)] []))
theorem jaA {W0:Base} {M:Nat->Prop} (hnp:W0.np<=1):Z22 Tryz.prog W0 M (cAt 26 (bo Tryz.f90)) j6S:=j0a follows j01 (Z8K j0f Z94) hnp [] oN [0,1,5] [] ([],[]) [(0,[0,1],[])] ([],[]) λσ k _ h=>rN h λhn h=>rV h λa h0 h=>rV h λk_ h1 h=>rV h λi h5 h=>⟨_,Z9m (m:=20) hn (sC h0 (sC h1 (sC h5 sN))) bN,.trans (Z88 (λv:qL×Int×Int=>(mkS 20 20 [(0,v1 y1 v.1 .O),(1,vI v.2.1),(5,vI v.2.2)] [])) (j3e) (λ(k:Z6O Unit)=>(((λ(a1:qL) (k_1:Int)=>k (.exit 0) (mkS 20 20 [(0,v1 y1 a1 .O),(1,vI k_1)] []))):(qL->Int->Res))) (λv rec k=>by kernel_rfl) Z12 (a,k_,i) k) h⟩
noncomputable def j0S (a:qL) (k_:Int) (k0:Int->qL->Res):Res:=
 j3J Z12 a k_ 0 λ(a1:qL) (k_1:Int)=>
  k0 k_1 a1
noncomputable def j2P:Sig Unit:=⟨[.inout y1 false,.borrow tI false],[false],λvals ext k=>ao vals y1 [.O] λa vals=>av vals tI λk_ vals=>nl vals<|nl ext<|j0S a k_ (λ(r0:Int) (i0:qL)=>k [wI r0] [w1 y1 i0 .O] [])⟩
theorem j3T:Z1p Tryz.prog 90 j2P:=j02 (np:=1) follows j01 (Z8K j0f Z94) [j6S] (oI 26 0 (jaA) oN) false Tryz.func90 λ_ _ k _ h=>aO h λ_ _ _ _ h=>aV h λ_ _ _ _ _ h=>nL h λ_ h=>nL h λ_ h=>by subst_vars;exact .trans (by kernel_rfl) h
noncomputable def j0W (a:qL) (k_:Int) (i:Int) (rec:Int->Int->Res) (k0:Int->Res) (k1:Unit->Res):Res:=
 bif decide (i<(nI (List.length a))) then
  bif inb i (List.length a) then
   j0b k_ λ(r:qB)=>
    bif sNe (nth eS a i) r then
     k1 ()
    else
     rec (Z8o (k_+1)) (Z8o (i+1))
  else none
 else
  k0 k_
noncomputable def j3b (a:qL):(Int×Int)->(Int×Int->Res)->((Int->Res)×(Unit->Res))->Res:=λv rec q=>j0W a v.1 v.2 (λk_ i=>rec (k_,i)) q.1 q.2
noncomputable def j3F (a:qL) (n:Nat) (k_:Int) (i:Int) (k0:Int->Res) (k1:Unit->Res):Res:=Z14 (j3b a) n (k_,i) (k0,k1)
noncomputable def j6R:Z1q Unit:=λσ k=>rdN σ 22<|rd1 σ 0 y1 .S λa=>rdI σ 1 λk_=>rdI σ 5 λi=>j3F a Z12 k_ i (λ(k_1:Int)=>k (.exit 0) (mkS 22 22 [(1,vI k_1)] [])) (λ(_:Unit)=>k .ret (mkS 22 22 [(4,vI (-1))] []))
theorem jaz {W0:Base} {M:Nat->Prop} (hnp:W0.np<=0):Z22 Tryz.prog W0 M (cAt 26 (bo Tryz.f180)) j6R:=j0a follows j01 (Z8K j0f Z94) hnp [] oN [0,1,5] [] ([],[]) [(0,[1],[])] ([4],[]) λσ k _ h=>rN h λhn h=>rV h λa h0 h=>rV h λk_ h1 h=>rV h λi h5 h=>⟨_,Z9m (m:=22) hn (sC h0 (sC h1 (sC h5 sN))) bN,.trans (Z88 (λv:Int×Int=>(mkS 22 22 [(0,v1 y1 a .S),(1,vI v.1),(5,vI v.2)] [])) (j3b a) (λ(k:Z6O Unit)=>(((λ(k_1:Int)=>k (.exit 0) (mkS 22 22 [(1,vI k_1)] [])),(λ(_:Unit)=>k .ret (mkS 22 22 [(4,vI (-1))] []))):(Int->Res)×(Unit->Res))) (λv rec k=>by kernel_rfl) Z12 (k_,i) k) h⟩
noncomputable def j0F (a:qL) (k_:Int) (k0:Int->Res):Res:=
 j3F a Z12 k_ 0
  (λ(k_1:Int)=>
   k0 k_1)
  (λ(_:Unit)=>
   k0 (-1))
noncomputable def j1z:Sig Unit:=⟨[.look y1 false,.look tI false],[false],λvals ext k=>av vals y1 λa vals=>av vals tI λk_ vals=>nl vals<|nl ext<|j0F a k_ (λ(r0:Int)=>k [wI r0] [] [])⟩
theorem j3S:Z1p Tryz.prog 180 j1z:=j02 (np:=0) follows j01 (Z8K j0f Z94) [j6R] (oI 26 0 (jaz) oN) false Tryz.func180 λ_ _ k _ h=>aV h λ_ _ _ _ _ h=>aV h λ_ _ _ _ _ h=>nL h λ_ h=>nL h λ_ h=>by subst_vars;exact .trans (by kernel_rfl) h
end Go.PI.G
namespace Go.PI.G
open Go Go.PI Go.Proofs
open Go.Code (pl pr)
noncomputable def j4g (a:qB×qE×qL) (left:Int) (k0:Int->Res):Res:=
 bif decide ((Z8o (left-(nI (ByteArray.size a.1))))<0) then
  k0 (-1)
 else
  j5c a.2.1 (Z8o (left-(nI (ByteArray.size a.1)))) λ(r:Int)=>
   bif decide (r<0) then
    k0 (-1)
   else
    j21 a.2.2 r λ(r1:Int)=>
     bif decide (r1<0) then
      k0 (-1)
     else
      k0 r1
noncomputable def je6:Sig Unit:=⟨[.look y22 true,.look tI false],[false],λvals ext k=>av vals y22 λa vals=>av vals tI λleft vals=>nl vals<|nl ext<|j4g a left (λ(r0:Int)=>k [wI r0] [] [])⟩
theorem ja1:Z1p Tryz.prog 270 je6:=j02 (np:=0) follows j01 (Z8K j8z (Z8K jep Z94)) [] oN false Tryz.func270 λ_ _ k _ h=>aV h λ_ _ _ _ _ h=>aV h λ_ _ _ _ _ h=>nL h λ_ h=>nL h λ_ h=>by subst_vars;exact .trans (by delta j4g jb0 j95;refine gz j5c λ_ e=> ?_;rewrite [<-e];refine gz j21 λ_ e=> ?_;rewrite [<-e];kernel_rfl) h
noncomputable def j4i (a:qB×qE×qL) (k0:qT->Res):Res:=
 j5d a.2.1 λ(r:List qC)=>
  j22 a.2.2 λ(r1:qL)=>
   k0 (a.1,r,r1)
noncomputable def je7:Sig Unit:=⟨[.borrow y22 true],[true],λvals ext k=>av vals y22 λa vals=>nl vals<|nl ext<|j4i a (λ(r0:qB×qE×qL)=>k [⟨y22,true,r0,[.O,.O]⟩] [] [])⟩
theorem ja2:Z1p Tryz.prog 275 je7:=j02 (np:=0) follows j01 (Z8K j8B (Z8K jes Z94)) [] oN false Tryz.func275 λ_ _ k _ h=>aV h λ_ _ _ _ _ h=>nL h λ_ h=>nL h λ_ h=>by subst_vars;exact .trans (by delta j4i jb1 j96;refine gz j5d λ_ e=> ?_;rewrite [<-e];refine gz j22 λ_ e=> ?_;rewrite [<-e];kernel_rfl) h
noncomputable def j41 (a:qB×qE×qL) (b:qB×qE×qL) (k0:Bool->Res):Res:=
 bif sNe a.1 b.1 then
  k0 false
 else
  j2Z a.2.1 b.2.1 λ(r:Bool)=>
   bif !r then
    k0 false
   else
    j0T a.2.2 b.2.2 λ(r1:Bool)=>
     bif !r1 then
      k0 false
     else
      k0 true
noncomputable def je5:Sig Unit:=⟨[.look y22 true,.look y22 true],[false],λvals ext k=>av vals y22 λa vals=>av vals y22 λb vals=>nl vals<|nl ext<|j41 a b (λ(r0:Bool)=>k [wB r0] [] [])⟩
theorem j9Z:Z1p Tryz.prog 280 je5:=j02 (np:=0) follows j01 (Z8K j5x (Z8K jaK Z94)) [] oN false Tryz.func280 λ_ _ k _ h=>aV h λ_ _ _ _ _ h=>aV h λ_ _ _ _ _ h=>nL h λ_ h=>nL h λ_ h=>by subst_vars;exact .trans (by delta j41 j7L j5S;refine gz j2Z λ_ e=> ?_;rewrite [<-e];refine gz j0T λ_ e=> ?_;rewrite [<-e];kernel_rfl) h
end Go.PI.G
namespace Go.PI.G
open Go Go.PI Go.Proofs
open Go.Code (pl pr)
noncomputable def j1x (a:List qT) (left:Int) (i:Int) (rec:Int->Int->Res) (k0:Int->Res) (k1:Unit->Res):Res:=
 bif decide (i<(nI (List.length a))) then
  bif inb i (List.length a) then
   j4g (nth (eS,[],[]) a i) left λ(r:Int)=>
    bif decide (r<0) then
     k1 ()
    else
     rec r (Z8o (i+1))
  else none
 else
  k0 left
noncomputable def j7v (a:List qT):(Int×Int)->(Int×Int->Res)->((Int->Res)×(Unit->Res))->Res:=λv rec q=>j1x a v.1 v.2 (λleft i=>rec (left,i)) q.1 q.2
noncomputable def j3k (a:List qT) (n:Nat) (left:Int) (i:Int) (k0:Int->Res) (k1:Unit->Res):Res:=Z14 (j7v a) n (left,i) (k0,k1)
noncomputable def j8d:Z1q Unit:=λσ k=>rdN σ 27<|rd1 σ 0 y23 .S λa=>rdI σ 1 λleft=>rdI σ 5 λi=>j3k a Z12 left i (λ(left1:Int)=>k (.exit 0) (mkS 27 27 [(1,vI left1)] [])) (λ(_:Unit)=>k .ret (mkS 27 27 [(4,vI (-1))] []))
theorem jc9 {W0:Base} {M:Nat->Prop} (hnp:W0.np<=0):Z22 Tryz.prog W0 M (cAt 122 (bo Tryz.f214)) j8d:=j0a follows j01 (Z8K ja1 Z94) hnp [] oN [0,1,5] [] ([],[]) [(0,[1],[])] ([4],[]) λσ k _ h=>rN h λhn h=>rV h λa h0 h=>rV h λleft h1 h=>rV h λi h5 h=>⟨_,Z9m (m:=27) hn (sC h0 (sC h1 (sC h5 sN))) bN,.trans (Z88 (λv:Int×Int=>(mkS 27 27 [(0,v1 y23 a .S),(1,vI v.1),(5,vI v.2)] [])) (j7v a) (λ(k:Z6O Unit)=>(((λ(left1:Int)=>k (.exit 0) (mkS 27 27 [(1,vI left1)] [])),(λ(_:Unit)=>k .ret (mkS 27 27 [(4,vI (-1))] []))):(Int->Res)×(Unit->Res))) (λv rec k=>by kernel_rfl) Z12 (left,i) k) h⟩
noncomputable def j5q (a:List qT) (left:Int) (k0:Int->Res):Res:=
 bif decide ((Z8o (left-(nI (List.length a))))<0) then
  k0 (-1)
 else
  j3k a Z12 (Z8o (left-(nI (List.length a)))) 0
   (λ(left1:Int)=>
    k0 left1)
   (λ(_:Unit)=>
    k0 (-1))
noncomputable def jdp:Sig Unit:=⟨[.look y23 false,.look tI false],[false],λvals ext k=>av vals y23 λa vals=>av vals tI λleft vals=>nl vals<|nl ext<|j5q a left (λ(r0:Int)=>k [wI r0] [] [])⟩
theorem jcW:Z1p Tryz.prog 214 jdp:=j02 (np:=0) follows j01 (Z8K ja1 Z94) [j8d] (oI 122 0 (jc9) oN) false Tryz.func214 λ_ _ k _ h=>aV h λ_ _ _ _ _ h=>aV h λ_ _ _ _ _ h=>nL h λ_ h=>nL h λ_ h=>by subst_vars;exact .trans (by kernel_rfl) h
noncomputable def j1y (a:List qT) (out:List qT) (i:Int) (rec:qF->Int->Res) (k0:qF->Res):Res:=
 bif decide (i<(nI (List.length a))) then
  bif inb i (List.length a) then
   j4i (nth (eS,[],[]) a i) λ(r:qB×qE×qL)=>
    bif inb i (List.length out) then
     rec (upd out i r) (Z8o (i+1))
    else none
  else none
 else
  k0 out
noncomputable def j4j (a:List qT):(qF×Int)->(qF×Int->Res)->((qF->Res))->Res:=λv rec q=>j1y a v.1 v.2 (λout i=>rec (out,i)) q
noncomputable def j8P (a:List qT) (n:Nat) (out:List qT) (i:Int) (k0:qF->Res):Res:=Z14 (j4j a) n (out,i) (k0)
noncomputable def j8e:Z1q Unit:=λσ k=>rdN σ 23<|rd1 σ 0 y23 .S λa=>rd1 σ 3 y23 .O λout=>rdI σ 4 λi=>j8P a Z12 out i (λ(out1:List qT)=>k (.exit 0) (mkS 23 23 [(3,v1 y23 out1 .O)] []))
theorem jca {W0:Base} {M:Nat->Prop} (hnp:W0.np<=0):Z22 Tryz.prog W0 M (cAt 58 (bo Tryz.f218)) j8e:=j0a follows j01 (Z8K ja2 Z94) hnp [] oN [0,3,4] [] ([],[]) [(0,[3],[])] ([],[]) λσ k _ h=>rN h λhn h=>rV h λa h0 h=>rV h λout h3 h=>rV h λi h4 h=>⟨_,Z9m (m:=23) hn (sC h0 (sC h3 (sC h4 sN))) bN,.trans (Z88 (λv:qF×Int=>(mkS 23 23 [(0,v1 y23 a .S),(3,v1 y23 v.1 .O),(4,vI v.2)] [])) (j4j a) (λ(k:Z6O Unit)=>(((λ(out1:List qT)=>k (.exit 0) (mkS 23 23 [(3,v1 y23 out1 .O)] []))):(qF->Res))) (λv rec k=>by kernel_rfl) Z12 (out,i) k) h⟩
noncomputable def j5r (a:List qT) (k0:qF->Res):Res:=
 bif Z8m (nI (List.length a)) (nI (List.length a)) then
  j8P a Z12 (Z7Y (nI (List.length a)) (eS,[],[])) 0 λ(out:List qT)=>
   k0 out
 else none
noncomputable def jdq:Sig Unit:=⟨[.borrow y23 false],[false],λvals ext k=>av vals y23 λa vals=>nl vals<|nl ext<|j5r a (λ(r0:List qT)=>k [w1 y23 r0 .O] [] [])⟩
theorem jcX:Z1p Tryz.prog 218 jdq:=j02 (np:=0) follows j01 (Z8K ja2 Z94) [j8e] (oI 58 0 (jca) oN) false Tryz.func218 λ_ _ k _ h=>aV h λ_ _ _ _ _ h=>nL h λ_ h=>nL h λ_ h=>by subst_vars;exact .trans (by kernel_rfl) h
noncomputable def j1p (a:List qT) (b:List qT) (i:Int) (rec:Int->Res) (k0:Unit->Res) (k1:Unit->Res):Res:=
 bif decide (i<(nI (List.length a))) then
  bif inb i (List.length a) then
   bif inb i (List.length b) then
    j41 (nth (eS,[],[]) a i) (nth (eS,[],[]) b i) λ(r:Bool)=>
     bif !r then
      k1 ()
     else
      rec (Z8o (i+1))
   else none
  else none
 else
  k0 ()
noncomputable def j7u (a:List qT) (b:List qT):Int->(Int->Res)->((Unit->Res)×(Unit->Res))->Res:=λv rec q=>j1p a b v (λi=>rec (i)) q.1 q.2
noncomputable def j5C (a:List qT) (b:List qT) (n:Nat) (i:Int) (k0:Unit->Res) (k1:Unit->Res):Res:=Z14 (j7u a b) n (i) (k0,k1)
noncomputable def j81:Z1q Unit:=λσ k=>rdN σ 27<|rd1 σ 0 y23 .S λa=>rd1 σ 1 y23 .S λb=>rdI σ 5 λi=>j5C a b Z12 i (λ(_:Unit)=>k (.exit 0) (mkS 27 27 [] [])) (λ(_:Unit)=>k .ret (mkS 27 27 [(4,vB false)] []))
theorem jbN {W0:Base} {M:Nat->Prop} (hnp:W0.np<=0):Z22 Tryz.prog W0 M (cAt 58 (bo Tryz.f223)) j81:=j0a follows j01 (Z8K j9Z Z94) hnp [] oN [0,1,5] [] ([],[]) [(0,[],[])] ([4],[]) λσ k _ h=>rN h λhn h=>rV h λa h0 h=>rV h λb h1 h=>rV h λi h5 h=>⟨_,Z9m (m:=27) hn (sC h0 (sC h1 (sC h5 sN))) bN,.trans (Z88 (λv:Int=>(mkS 27 27 [(0,v1 y23 a .S),(1,v1 y23 b .S),(5,vI v)] [])) (j7u a b) (λ(k:Z6O Unit)=>(((λ(_:Unit)=>k (.exit 0) (mkS 27 27 [] [])),(λ(_:Unit)=>k .ret (mkS 27 27 [(4,vB false)] []))):(Unit->Res)×(Unit->Res))) (λv rec k=>by kernel_rfl) Z12 (i) k) h⟩
noncomputable def j5n (a:List qT) (b:List qT) (k0:Bool->Res):Res:=
 bif ((nI (List.length a)) != (nI (List.length b))) then
  k0 false
 else
  j5C a b Z12 0
   (λ(_:Unit)=>
    k0 true)
   (λ(_:Unit)=>
    k0 false)
noncomputable def jdm:Sig Unit:=⟨[.look y23 false,.look y23 false],[false],λvals ext k=>av vals y23 λa vals=>av vals y23 λb vals=>nl vals<|nl ext<|j5n a b (λ(r0:Bool)=>k [wB r0] [] [])⟩
theorem jcR:Z1p Tryz.prog 223 jdm:=j02 (np:=0) follows j01 (Z8K j9Z Z94) [j81] (oI 58 0 (jbN) oN) false Tryz.func223 λ_ _ k _ h=>aV h λ_ _ _ _ _ h=>aV h λ_ _ _ _ _ h=>nL h λ_ h=>nL h λ_ h=>by subst_vars;exact .trans (by kernel_rfl) h
theorem j7U:Fns Tryz.prog [(90,j2P),(175,j0t),(177,j3Q)]:=(Z8K j3T (Z8K j0f (Z8K j9p Z94)))
noncomputable def j0J (a:List qT) (k_:Int) (i:Int) (rec:qF->Int->Int->Res) (k0:qF->Int->Res):Res:=
 bif decide (i<(nI (List.length a))) then
  j0b k_ λ(r:qB)=>
   bif inb i (List.length a) then
    bif inb i (List.length (upd a i (r,(nth (eS,[],[]) a i).2))) then
     j2y (nth (eS,[],[]) (upd a i (r,(nth (eS,[],[]) a i).2)) i).2.1 (Z8o (k_+1)) λ(r1:Int) (a1:List qC)=>
      bif inb i (List.length (upd (upd a i (r,(nth (eS,[],[]) a i).2)) i ((nth (eS,[],[]) (upd a i (r,(nth (eS,[],[]) a i).2)) i).1,a1,(nth (eS,[],[]) (upd a i (r,(nth (eS,[],[]) a i).2)) i).2.2))) then
       j0S (nth (eS,[],[]) (upd (upd a i (r,(nth (eS,[],[]) a i).2)) i ((nth (eS,[],[]) (upd a i (r,(nth (eS,[],[]) a i).2)) i).1,a1,(nth (eS,[],[]) (upd a i (r,(nth (eS,[],[]) a i).2)) i).2.2)) i).2.2 r1 λ(r2:Int) (a2:qL)=>
        rec (upd (upd (upd a i (r,(nth (eS,[],[]) a i).2)) i ((nth (eS,[],[]) (upd a i (r,(nth (eS,[],[]) a i).2)) i).1,a1,(nth (eS,[],[]) (upd a i (r,(nth (eS,[],[]) a i).2)) i).2.2)) i ((nth (eS,[],[]) (upd (upd a i (r,(nth (eS,[],[]) a i).2)) i ((nth (eS,[],[]) (upd a i (r,(nth (eS,[],[]) a i).2)) i).1,a1,(nth (eS,[],[]) (upd a i (r,(nth (eS,[],[]) a i).2)) i).2.2)) i).1,(nth (eS,[],[]) (upd (upd a i (r,(nth (eS,[],[]) a i).2)) i ((nth (eS,[],[]) (upd a i (r,(nth (eS,[],[]) a i).2)) i).1,a1,(nth (eS,[],[]) (upd a i (r,(nth (eS,[],[]) a i).2)) i).2.2)) i).2.1,a2)) r2 (Z8o (i+1))
      else none
    else none
   else none
 else
  k0 a k_
noncomputable def j1U:(qF×Int×Int)->(qF×Int×Int->Res)->((qF->Int->Res))->Res:=λv rec q=>j0J v.1 v.2.1 v.2.2 (λa k_ i=>rec (a,k_,i)) q
noncomputable def j4d (n:Nat) (a:List qT) (k_:Int) (i:Int) (k0:qF->Int->Res):Res:=Z14 (j1U) n (a,k_,i) (k0)
noncomputable def j6X:Z1q Unit:=λσ k=>rdN σ 35<|rd1 σ 0 y23 .O λa=>rdI σ 1 λk_=>rdI σ 5 λi=>j4d Z12 a k_ i (λ(a3:List qT) (k_1:Int)=>k (.exit 0) (mkS 35 35 [(0,v1 y23 a3 .O),(1,vI k_1)] []))
theorem jb7 {W0:Base} {M:Nat->Prop} (hnp:W0.np<=1):Z22 Tryz.prog W0 M (cAt 26 (bo Tryz.f225)) j6X:=j0a follows j01 j7U hnp [] oN [0,1,5] [] ([],[]) [(0,[0,1],[])] ([],[]) λσ k _ h=>rN h λhn h=>rV h λa h0 h=>rV h λk_ h1 h=>rV h λi h5 h=>⟨_,Z9m (m:=35) hn (sC h0 (sC h1 (sC h5 sN))) bN,.trans (Z88 (λv:qF×Int×Int=>(mkS 35 35 [(0,v1 y23 v.1 .O),(1,vI v.2.1),(5,vI v.2.2)] [])) (j1U) (λ(k:Z6O Unit)=>(((λ(a3:List qT) (k_1:Int)=>k (.exit 0) (mkS 35 35 [(0,v1 y23 a3 .O),(1,vI k_1)] []))):(qF->Int->Res))) (λv rec k=>by delta j1U j0J j0t j3Q j2P;refine gz j0b λ_ e=> ?_;rewrite [<-e];refine gz j2y λ_ e=> ?_;rewrite [<-e];refine gz j0S λ_ e=> ?_;rewrite [<-e];kernel_rfl) Z12 (a,k_,i) k) h⟩
noncomputable def j3M (a:List qT) (k_:Int) (k0:Int->qF->Res):Res:=
 j4d Z12 a k_ 0 λ(a1:List qT) (k_1:Int)=>
  k0 k_1 a1
noncomputable def jcc:Sig Unit:=⟨[.inout y23 false,.borrow tI false],[false],λvals ext k=>ao vals y23 [.O] λa vals=>av vals tI λk_ vals=>nl vals<|nl ext<|j3M a k_ (λ(r0:Int) (i0:List qT)=>k [wI r0] [w1 y23 i0 .O] [])⟩
theorem jbL:Z1p Tryz.prog 225 jcc:=j02 (np:=1) follows j01 j7U [j6X] (oI 26 0 (jb7) oN) false Tryz.func225 λ_ _ k _ h=>aO h λ_ _ _ _ h=>aV h λ_ _ _ _ _ h=>nL h λ_ h=>nL h λ_ h=>by subst_vars;exact .trans (by kernel_rfl) h
theorem j7T:Fns Tryz.prog [(175,j0t),(179,j2O),(180,j1z)]:=(Z8K j0f (Z8K j9n (Z8K j3S Z94)))
noncomputable def j0I (a:List qT) (k_:Int) (i:Int) (rec:Int->Int->Res) (k0:Int->Res) (k1:Unit->Res):Res:=
 bif decide (i<(nI (List.length a))) then
  bif inb i (List.length a) then
   j0b k_ λ(r:qB)=>
    bif sNe (nth (eS,[],[]) a i).1 r then
     k1 ()
    else
     bif inb i (List.length a) then
      j1A (nth (eS,[],[]) a i).2.1 (Z8o (k_+1)) λ(r1:Int)=>
       bif decide (r1<0) then
        k1 ()
       else
        bif inb i (List.length a) then
         j0F (nth (eS,[],[]) a i).2.2 r1 λ(r2:Int)=>
          bif decide (r2<0) then
           k1 ()
          else
           rec r2 (Z8o (i+1))
        else none
     else none
  else none
 else
  k0 k_
noncomputable def j1T (a:List qT):(Int×Int)->(Int×Int->Res)->((Int->Res)×(Unit->Res))->Res:=λv rec q=>j0I a v.1 v.2 (λk_ i=>rec (k_,i)) q.1 q.2
noncomputable def j47 (a:List qT) (n:Nat) (k_:Int) (i:Int) (k0:Int->Res) (k1:Unit->Res):Res:=Z14 (j1T a) n (k_,i) (k0,k1)
noncomputable def j6W:Z1q Unit:=λσ k=>rdN σ 41<|rd1 σ 0 y23 .S λa=>rdI σ 1 λk_=>rdI σ 5 λi=>j47 a Z12 k_ i (λ(k_1:Int)=>k (.exit 0) (mkS 41 41 [(1,vI k_1)] [])) (λ(_:Unit)=>k .ret (mkS 41 41 [(4,vI (-1))] []))
theorem jb6 {W0:Base} {M:Nat->Prop} (hnp:W0.np<=0):Z22 Tryz.prog W0 M (cAt 26 (bo Tryz.f334)) j6W:=j0a follows j01 j7T hnp [] oN [0,1,5] [] ([],[]) [(0,[1],[])] ([4],[]) λσ k _ h=>rN h λhn h=>rV h λa h0 h=>rV h λk_ h1 h=>rV h λi h5 h=>⟨_,Z9m (m:=41) hn (sC h0 (sC h1 (sC h5 sN))) bN,.trans (Z88 (λv:Int×Int=>(mkS 41 41 [(0,v1 y23 a .S),(1,vI v.1),(5,vI v.2)] [])) (j1T a) (λ(k:Z6O Unit)=>(((λ(k_1:Int)=>k (.exit 0) (mkS 41 41 [(1,vI k_1)] [])),(λ(_:Unit)=>k .ret (mkS 41 41 [(4,vI (-1))] []))):(Int->Res)×(Unit->Res))) (λv rec k=>by delta j1T j0I j0t j2O j1z;refine gz j0b λ_ e=> ?_;rewrite [<-e];refine gz j1A λ_ e=> ?_;rewrite [<-e];refine gz j0F λ_ e=> ?_;rewrite [<-e];kernel_rfl) Z12 (k_,i) k) h⟩
noncomputable def j3L (a:List qT) (k_:Int) (k0:Int->Res):Res:=
 j47 a Z12 k_ 0
  (λ(k_1:Int)=>
   k0 k_1)
  (λ(_:Unit)=>
   k0 (-1))
noncomputable def jcb:Sig Unit:=⟨[.look y23 false,.look tI false],[false],λvals ext k=>av vals y23 λa vals=>av vals tI λk_ vals=>nl vals<|nl ext<|j3L a k_ (λ(r0:Int)=>k [wI r0] [] [])⟩
theorem jbK:Z1p Tryz.prog 334 jcb:=j02 (np:=0) follows j01 j7T [j6W] (oI 26 0 (jb6) oN) false Tryz.func334 λ_ _ k _ h=>aV h λ_ _ _ _ _ h=>aV h λ_ _ _ _ _ h=>nL h λ_ h=>nL h λ_ h=>by subst_vars;exact .trans (by kernel_rfl) h
end Go.PI.G
namespace Go.PI.G
open Go Go.PI Go.Proofs
open Go.Code (pl pr)
noncomputable def j6r (a:List qT) (left:Int) (k0:Int->Res):Res:=
 j5q a left λ(r:Int)=>
  bif decide (r<0) then
   k0 (-1)
  else
   k0 r
noncomputable def jbB:Sig Unit:=⟨[.look y23 true,.look tI false],[false],λvals ext k=>av vals y23 λa vals=>av vals tI λleft vals=>nl vals<|nl ext<|j6r a left (λ(r0:Int)=>k [wI r0] [] [])⟩
theorem jf9:Z1p Tryz.prog 136 jbB:=j02 (np:=0) follows j01 (Z8K jcW Z94) [] oN false Tryz.func136 λ_ _ k _ h=>aV h λ_ _ _ _ _ h=>aV h λ_ _ _ _ _ h=>nL h λ_ h=>nL h λ_ h=>by subst_vars;exact .trans (by kernel_rfl) h
noncomputable def j6u (a:List qT) (k0:qF->Res):Res:=
 j5r a λ(r:List qT)=>
  k0 r
noncomputable def jbC:Sig Unit:=⟨[.borrow y23 true],[true],λvals ext k=>av vals y23 λa vals=>nl vals<|nl ext<|j6u a (λ(r0:List qT)=>k [⟨y23,true,r0,[.O]⟩] [] [])⟩
theorem jfb:Z1p Tryz.prog 140 jbC:=j02 (np:=0) follows j01 (Z8K jcX Z94) [] oN false Tryz.func140 λ_ _ k _ h=>aV h λ_ _ _ _ _ h=>nL h λ_ h=>nL h λ_ h=>by subst_vars;exact .trans (by kernel_rfl) h
noncomputable def j6l (a:List qT) (b:List qT) (k0:Bool->Res):Res:=
 j5n a b λ(r:Bool)=>
  bif !r then
   k0 false
  else
   k0 true
noncomputable def jbw:Sig Unit:=⟨[.look y23 true,.look y23 true],[false],λvals ext k=>av vals y23 λa vals=>av vals y23 λb vals=>nl vals<|nl ext<|j6l a b (λ(r0:Bool)=>k [wB r0] [] [])⟩
theorem jf5:Z1p Tryz.prog 148 jbw:=j02 (np:=0) follows j01 (Z8K jcR Z94) [] oN false Tryz.func148 λ_ _ k _ h=>aV h λ_ _ _ _ _ h=>aV h λ_ _ _ _ _ h=>nL h λ_ h=>nL h λ_ h=>by subst_vars;exact .trans (by kernel_rfl) h
noncomputable def j49 (a:List qT) (k_:Int) (k0:Int->qF->Res):Res:=
 j3M a k_ λ(r:Int) (a1:List qT)=>
  k0 r a1
noncomputable def jag:Sig Unit:=⟨[.inout y23 true,.borrow tI false],[false],λvals ext k=>ao vals y23 [.O] λa vals=>av vals tI λk_ vals=>nl vals<|nl ext<|j49 a k_ (λ(r0:Int) (i0:List qT)=>k [wI r0] [⟨y23,true,i0,[.O]⟩] [])⟩
theorem jdH:Z1p Tryz.prog 150 jag:=j02 (np:=1) follows j01 (Z8K jbL Z94) [] oN false Tryz.func150 λ_ _ k _ h=>aO h λ_ _ _ _ h=>aV h λ_ _ _ _ _ h=>nL h λ_ h=>nL h λ_ h=>by subst_vars;exact .trans (by kernel_rfl) h
noncomputable def j42 (a:List qT) (k_:Int) (k0:Int->Res):Res:=
 j3L a k_ λ(r:Int)=>
  bif decide (r<0) then
   k0 (-1)
  else
   k0 r
noncomputable def jac:Sig Unit:=⟨[.look y23 true,.look tI false],[false],λvals ext k=>av vals y23 λa vals=>av vals tI λk_ vals=>nl vals<|nl ext<|j42 a k_ (λ(r0:Int)=>k [wI r0] [] [])⟩
theorem jdD:Z1p Tryz.prog 282 jac:=j02 (np:=0) follows j01 (Z8K jbK Z94) [] oN false Tryz.func282 λ_ _ k _ h=>aV h λ_ _ _ _ _ h=>aV h λ_ _ _ _ _ h=>nL h λ_ h=>nL h λ_ h=>by subst_vars;exact .trans (by kernel_rfl) h
end Go.PI.G
namespace Go.PI.G
open Go Go.PI Go.Proofs
open Go.Code (pl pr)
noncomputable def j2n (a:List qV) (left:Int) (i:Int) (rec:Int->Int->Res) (k0:Int->Res) (k1:Unit->Res):Res:=
 bif decide (i<(nI (List.length a))) then
  bif inb i (List.length a) then
   j6t (nth (0,0,eS) a i) left λ(r:Int)=>
    bif decide (r<0) then
     k1 ()
    else
     rec r (Z8o (i+1))
  else none
 else
  k0 left
noncomputable def j8O (a:List qV):(Int×Int)->(Int×Int->Res)->((Int->Res)×(Unit->Res))->Res:=λv rec q=>j2n a v.1 v.2 (λleft i=>rec (left,i)) q.1 q.2
noncomputable def j4J (a:List qV) (n:Nat) (left:Int) (i:Int) (k0:Int->Res) (k1:Unit->Res):Res:=Z14 (j8O a) n (left,i) (k0,k1)
noncomputable def j9F:Z1q Unit:=λσ k=>rdN σ 27<|rd1 σ 0 y4 .S λa=>rdI σ 1 λleft=>rdI σ 5 λi=>j4J a Z12 left i (λ(left1:Int)=>k (.exit 0) (mkS 27 27 [(1,vI left1)] [])) (λ(_:Unit)=>k .ret (mkS 27 27 [(4,vI (-1))] []))
theorem jde {W0:Base} {M:Nat->Prop} (hnp:W0.np<=0):Z22 Tryz.prog W0 M (cAt 122 (bo Tryz.f285)) j9F:=j0a follows j01 (Z8K j8A Z94) hnp [] oN [0,1,5] [] ([],[]) [(0,[1],[])] ([4],[]) λσ k _ h=>rN h λhn h=>rV h λa h0 h=>rV h λleft h1 h=>rV h λi h5 h=>⟨_,Z9m (m:=27) hn (sC h0 (sC h1 (sC h5 sN))) bN,.trans (Z88 (λv:Int×Int=>(mkS 27 27 [(0,v1 y4 a .S),(1,vI v.1),(5,vI v.2)] [])) (j8O a) (λ(k:Z6O Unit)=>(((λ(left1:Int)=>k (.exit 0) (mkS 27 27 [(1,vI left1)] [])),(λ(_:Unit)=>k .ret (mkS 27 27 [(4,vI (-1))] []))):(Int->Res)×(Unit->Res))) (λv rec k=>by kernel_rfl) Z12 (left,i) k) h⟩
noncomputable def j7p (a:List qV) (left:Int) (k0:Int->Res):Res:=
 bif decide ((Z8o (left-(nI (List.length a))))<0) then
  k0 (-1)
 else
  j4J a Z12 (Z8o (left-(nI (List.length a)))) 0
   (λ(left1:Int)=>
    k0 left1)
   (λ(_:Unit)=>
    k0 (-1))
noncomputable def jeQ:Sig Unit:=⟨[.look y4 false,.look tI false],[false],λvals ext k=>av vals y4 λa vals=>av vals tI λleft vals=>nl vals<|nl ext<|j7p a left (λ(r0:Int)=>k [wI r0] [] [])⟩
theorem jer:Z1p Tryz.prog 285 jeQ:=j02 (np:=0) follows j01 (Z8K j8A Z94) [j9F] (oI 122 0 (jde) oN) false Tryz.func285 λ_ _ k _ h=>aV h λ_ _ _ _ _ h=>aV h λ_ _ _ _ _ h=>nL h λ_ h=>nL h λ_ h=>by subst_vars;exact .trans (by kernel_rfl) h
noncomputable def j2q (a:List qV) (out:List qV) (i:Int) (rec:qW->Int->Res) (k0:qW->Res):Res:=
 bif decide (i<(nI (List.length a))) then
  bif inb i (List.length a) then
   j6v (nth (0,0,eS) a i) λ(r:Int×Int×qB)=>
    bif inb i (List.length out) then
     rec (upd out i r) (Z8o (i+1))
    else none
  else none
 else
  k0 out
noncomputable def j5Q (a:List qV):(qW×Int)->(qW×Int->Res)->((qW->Res))->Res:=λv rec q=>j2q a v.1 v.2 (λout i=>rec (out,i)) q
noncomputable def ja7 (a:List qV) (n:Nat) (out:List qV) (i:Int) (k0:qW->Res):Res:=Z14 (j5Q a) n (out,i) (k0)
noncomputable def j9I:Z1q Unit:=λσ k=>rdN σ 23<|rd1 σ 0 y4 .S λa=>rd1 σ 3 y4 .O λout=>rdI σ 4 λi=>ja7 a Z12 out i (λ(out1:List qV)=>k (.exit 0) (mkS 23 23 [(3,v1 y4 out1 .O)] []))
theorem jdh {W0:Base} {M:Nat->Prop} (hnp:W0.np<=0):Z22 Tryz.prog W0 M (cAt 58 (bo Tryz.f289)) j9I:=j0a follows j01 (Z8K j8C Z94) hnp [] oN [0,3,4] [] ([],[]) [(0,[3],[])] ([],[]) λσ k _ h=>rN h λhn h=>rV h λa h0 h=>rV h λout h3 h=>rV h λi h4 h=>⟨_,Z9m (m:=23) hn (sC h0 (sC h3 (sC h4 sN))) bN,.trans (Z88 (λv:qW×Int=>(mkS 23 23 [(0,v1 y4 a .S),(3,v1 y4 v.1 .O),(4,vI v.2)] [])) (j5Q a) (λ(k:Z6O Unit)=>(((λ(out1:List qV)=>k (.exit 0) (mkS 23 23 [(3,v1 y4 out1 .O)] []))):(qW->Res))) (λv rec k=>by kernel_rfl) Z12 (out,i) k) h⟩
noncomputable def j7s (a:List qV) (k0:qW->Res):Res:=
 bif Z8m (nI (List.length a)) (nI (List.length a)) then
  ja7 a Z12 (Z7Y (nI (List.length a)) (0,0,eS)) 0 λ(out:List qV)=>
   k0 out
 else none
noncomputable def jeT:Sig Unit:=⟨[.borrow y4 false],[false],λvals ext k=>av vals y4 λa vals=>nl vals<|nl ext<|j7s a (λ(r0:List qV)=>k [w1 y4 r0 .O] [] [])⟩
theorem jeu:Z1p Tryz.prog 289 jeT:=j02 (np:=0) follows j01 (Z8K j8C Z94) [j9I] (oI 58 0 (jdh) oN) false Tryz.func289 λ_ _ k _ h=>aV h λ_ _ _ _ _ h=>nL h λ_ h=>nL h λ_ h=>by subst_vars;exact .trans (by kernel_rfl) h
noncomputable def j29 (a:List qV) (b:List qV) (i:Int) (rec:Int->Res) (k0:Unit->Res) (k1:Unit->Res):Res:=
 bif decide (i<(nI (List.length a))) then
  bif inb i (List.length a) then
   bif inb i (List.length b) then
    j6q (nth (0,0,eS) a i) (nth (0,0,eS) b i) λ(r:Bool)=>
     bif !r then
      k1 ()
     else
      rec (Z8o (i+1))
   else none
  else none
 else
  k0 ()
noncomputable def j8L (a:List qV) (b:List qV):Int->(Int->Res)->((Unit->Res)×(Unit->Res))->Res:=λv rec q=>j29 a b v (λi=>rec (i)) q.1 q.2
noncomputable def j76 (a:List qV) (b:List qV) (n:Nat) (i:Int) (k0:Unit->Res) (k1:Unit->Res):Res:=Z14 (j8L a b) n (i) (k0,k1)
noncomputable def j9C:Z1q Unit:=λσ k=>rdN σ 27<|rd1 σ 0 y4 .S λa=>rd1 σ 1 y4 .S λb=>rdI σ 5 λi=>j76 a b Z12 i (λ(_:Unit)=>k (.exit 0) (mkS 27 27 [] [])) (λ(_:Unit)=>k .ret (mkS 27 27 [(4,vB false)] []))
theorem jdb {W0:Base} {M:Nat->Prop} (hnp:W0.np<=0):Z22 Tryz.prog W0 M (cAt 58 (bo Tryz.f294)) j9C:=j0a follows j01 (Z8K j8w Z94) hnp [] oN [0,1,5] [] ([],[]) [(0,[],[])] ([4],[]) λσ k _ h=>rN h λhn h=>rV h λa h0 h=>rV h λb h1 h=>rV h λi h5 h=>⟨_,Z9m (m:=27) hn (sC h0 (sC h1 (sC h5 sN))) bN,.trans (Z88 (λv:Int=>(mkS 27 27 [(0,v1 y4 a .S),(1,v1 y4 b .S),(5,vI v)] [])) (j8L a b) (λ(k:Z6O Unit)=>(((λ(_:Unit)=>k (.exit 0) (mkS 27 27 [] [])),(λ(_:Unit)=>k .ret (mkS 27 27 [(4,vB false)] []))):(Unit->Res)×(Unit->Res))) (λv rec k=>by kernel_rfl) Z12 (i) k) h⟩
noncomputable def j3w (a:List qV) (b:List qV) (k0:Bool->Res):Res:=
 bif ((nI (List.length a)) != (nI (List.length b))) then
  k0 false
 else
  j76 a b Z12 0
   (λ(_:Unit)=>
    k0 true)
   (λ(_:Unit)=>
    k0 false)
noncomputable def jaZ:Sig Unit:=⟨[.look y4 false,.look y4 false],[false],λvals ext k=>av vals y4 λa vals=>av vals y4 λb vals=>nl vals<|nl ext<|j3w a b (λ(r0:Bool)=>k [wB r0] [] [])⟩
theorem jaN:Z1p Tryz.prog 294 jaZ:=j02 (np:=0) follows j01 (Z8K j8w Z94) [j9C] (oI 58 0 (jdb) oN) false Tryz.func294 λ_ _ k _ h=>aV h λ_ _ _ _ _ h=>aV h λ_ _ _ _ _ h=>nL h λ_ h=>nL h λ_ h=>by subst_vars;exact .trans (by kernel_rfl) h
noncomputable def j1w (a:List qV) (k_:Int) (i:Int) (rec:qW->Int->Int->Res) (k0:qW->Int->Res):Res:=
 bif decide (i<(nI (List.length a))) then
  bif inb i (List.length a) then
   bif inb i (List.length (upd a i (k_,(nth (0,0,eS) a i).2))) then
    j0b (Z8o ((Z8o (k_+1))+1)) λ(r:qB)=>
     bif inb i (List.length (upd (upd a i (k_,(nth (0,0,eS) a i).2)) i ((nth (0,0,eS) (upd a i (k_,(nth (0,0,eS) a i).2)) i).1,Z8o (k_+1),(nth (0,0,eS) (upd a i (k_,(nth (0,0,eS) a i).2)) i).2.2))) then
      rec (upd (upd (upd a i (k_,(nth (0,0,eS) a i).2)) i ((nth (0,0,eS) (upd a i (k_,(nth (0,0,eS) a i).2)) i).1,Z8o (k_+1),(nth (0,0,eS) (upd a i (k_,(nth (0,0,eS) a i).2)) i).2.2)) i ((nth (0,0,eS) (upd (upd a i (k_,(nth (0,0,eS) a i).2)) i ((nth (0,0,eS) (upd a i (k_,(nth (0,0,eS) a i).2)) i).1,Z8o (k_+1),(nth (0,0,eS) (upd a i (k_,(nth (0,0,eS) a i).2)) i).2.2)) i).1,(nth (0,0,eS) (upd (upd a i (k_,(nth (0,0,eS) a i).2)) i ((nth (0,0,eS) (upd a i (k_,(nth (0,0,eS) a i).2)) i).1,Z8o (k_+1),(nth (0,0,eS) (upd a i (k_,(nth (0,0,eS) a i).2)) i).2.2)) i).2.1,r)) (Z8o ((Z8o ((Z8o (k_+1))+1))+1)) (Z8o (i+1))
     else none
   else none
  else none
 else
  k0 a k_
noncomputable def j4e:(qW×Int×Int)->(qW×Int×Int->Res)->((qW->Int->Res))->Res:=λv rec q=>j1w v.1 v.2.1 v.2.2 (λa k_ i=>rec (a,k_,i)) q
noncomputable def j5N (n:Nat) (a:List qV) (k_:Int) (i:Int) (k0:qW->Int->Res):Res:=Z14 (j4e) n (a,k_,i) (k0)
noncomputable def j8c:Z1q Unit:=λσ k=>rdN σ 35<|rd1 σ 0 y4 .O λa=>rdI σ 1 λk_=>rdI σ 5 λi=>j5N Z12 a k_ i (λ(a1:List qV) (k_1:Int)=>k (.exit 0) (mkS 35 35 [(0,v1 y4 a1 .O),(1,vI k_1)] []))
theorem jc8 {W0:Base} {M:Nat->Prop} (hnp:W0.np<=1):Z22 Tryz.prog W0 M (cAt 26 (bo Tryz.f176)) j8c:=j0a follows j01 (Z8K j0f Z94) hnp [] oN [0,1,5] [] ([],[]) [(0,[0,1],[])] ([],[]) λσ k _ h=>rN h λhn h=>rV h λa h0 h=>rV h λk_ h1 h=>rV h λi h5 h=>⟨_,Z9m (m:=35) hn (sC h0 (sC h1 (sC h5 sN))) bN,.trans (Z88 (λv:qW×Int×Int=>(mkS 35 35 [(0,v1 y4 v.1 .O),(1,vI v.2.1),(5,vI v.2.2)] [])) (j4e) (λ(k:Z6O Unit)=>(((λ(a1:List qV) (k_1:Int)=>k (.exit 0) (mkS 35 35 [(0,v1 y4 a1 .O),(1,vI k_1)] []))):(qW->Int->Res))) (λv rec k=>by kernel_rfl) Z12 (a,k_,i) k) h⟩
noncomputable def j1C (a:List qV) (k_:Int) (k0:Int->qW->Res):Res:=
 j5N Z12 a k_ 0 λ(a1:List qV) (k_1:Int)=>
  k0 k_1 a1
noncomputable def j6y:Sig Unit:=⟨[.inout y4 false,.borrow tI false],[false],λvals ext k=>ao vals y4 [.O] λa vals=>av vals tI λk_ vals=>nl vals<|nl ext<|j1C a k_ (λ(r0:Int) (i0:List qV)=>k [wI r0] [w1 y4 i0 .O] [])⟩
theorem j64:Z1p Tryz.prog 176 j6y:=j02 (np:=1) follows j01 (Z8K j0f Z94) [j8c] (oI 26 0 (jc8) oN) false Tryz.func176 λ_ _ k _ h=>aO h λ_ _ _ _ h=>aV h λ_ _ _ _ _ h=>nL h λ_ h=>nL h λ_ h=>by subst_vars;exact .trans (by kernel_rfl) h
noncomputable def j1s (a:List qV) (k_:Int) (i:Int) (rec:Int->Int->Res) (k0:Int->Res) (k1:Unit->Res):Res:=
 bif decide (i<(nI (List.length a))) then
  bif inb i (List.length a) then
   bif ((nth (0,0,eS) a i).1 != k_) then
    k1 ()
   else
    bif inb i (List.length a) then
     bif ((nth (0,0,eS) a i).2.1 != (Z8o (k_+1))) then
      k1 ()
     else
      bif inb i (List.length a) then
       j0b (Z8o ((Z8o (k_+1))+1)) λ(r:qB)=>
        bif sNe (nth (0,0,eS) a i).2.2 r then
         k1 ()
        else
         rec (Z8o ((Z8o ((Z8o (k_+1))+1))+1)) (Z8o (i+1))
      else none
    else none
  else none
 else
  k0 k_
noncomputable def j48 (a:List qV):(Int×Int)->(Int×Int->Res)->((Int->Res)×(Unit->Res))->Res:=λv rec q=>j1s a v.1 v.2 (λk_ i=>rec (k_,i)) q.1 q.2
noncomputable def j5H (a:List qV) (n:Nat) (k_:Int) (i:Int) (k0:Int->Res) (k1:Unit->Res):Res:=Z14 (j48 a) n (k_,i) (k0,k1)
noncomputable def j86:Z1q Unit:=λσ k=>rdN σ 41<|rd1 σ 0 y4 .S λa=>rdI σ 1 λk_=>rdI σ 5 λi=>j5H a Z12 k_ i (λ(k_1:Int)=>k (.exit 0) (mkS 41 41 [(1,vI k_1)] [])) (λ(_:Unit)=>k .ret (mkS 41 41 [(4,vI (-1))] []))
theorem jbS {W0:Base} {M:Nat->Prop} (hnp:W0.np<=0):Z22 Tryz.prog W0 M (cAt 26 (bo Tryz.f178)) j86:=j0a follows j01 (Z8K j0f Z94) hnp [] oN [0,1,5] [] ([],[]) [(0,[1],[])] ([4],[]) λσ k _ h=>rN h λhn h=>rV h λa h0 h=>rV h λk_ h1 h=>rV h λi h5 h=>⟨_,Z9m (m:=41) hn (sC h0 (sC h1 (sC h5 sN))) bN,.trans (Z88 (λv:Int×Int=>(mkS 41 41 [(0,v1 y4 a .S),(1,vI v.1),(5,vI v.2)] [])) (j48 a) (λ(k:Z6O Unit)=>(((λ(k_1:Int)=>k (.exit 0) (mkS 41 41 [(1,vI k_1)] [])),(λ(_:Unit)=>k .ret (mkS 41 41 [(4,vI (-1))] []))):(Int->Res)×(Unit->Res))) (λv rec k=>by kernel_rfl) Z12 (k_,i) k) h⟩
noncomputable def j1B (a:List qV) (k_:Int) (k0:Int->Res):Res:=
 j5H a Z12 k_ 0
  (λ(k_1:Int)=>
   k0 k_1)
  (λ(_:Unit)=>
   k0 (-1))
noncomputable def j6x:Sig Unit:=⟨[.look y4 false,.look tI false],[false],λvals ext k=>av vals y4 λa vals=>av vals tI λk_ vals=>nl vals<|nl ext<|j1B a k_ (λ(r0:Int)=>k [wI r0] [] [])⟩
theorem j63:Z1p Tryz.prog 178 j6x:=j02 (np:=0) follows j01 (Z8K j0f Z94) [j86] (oI 26 0 (jbS) oN) false Tryz.func178 λ_ _ k _ h=>aV h λ_ _ _ _ _ h=>aV h λ_ _ _ _ _ h=>nL h λ_ h=>nL h λ_ h=>by subst_vars;exact .trans (by kernel_rfl) h
end Go.PI.G
namespace Go.PI.G
open Go Go.PI Go.Proofs
open Go.Code (pl pr)
noncomputable def j8k (a:List qV) (left:Int) (k0:Int->Res):Res:=
 j7p a left λ(r:Int)=>
  bif decide (r<0) then
   k0 (-1)
  else
   k0 r
noncomputable def jfH:Sig Unit:=⟨[.look y4 true,.look tI false],[false],λvals ext k=>av vals y4 λa vals=>av vals tI λleft vals=>nl vals<|nl ext<|j8k a left (λ(r0:Int)=>k [wI r0] [] [])⟩
theorem jbd:Z1p Tryz.prog 286 jfH:=j02 (np:=0) follows j01 (Z8K jer Z94) [] oN false Tryz.func286 λ_ _ k _ h=>aV h λ_ _ _ _ _ h=>aV h λ_ _ _ _ _ h=>nL h λ_ h=>nL h λ_ h=>by subst_vars;exact .trans (by kernel_rfl) h
noncomputable def j8m (a:List qV) (k0:qW->Res):Res:=
 j7s a λ(r:List qV)=>
  k0 r
noncomputable def jfK:Sig Unit:=⟨[.borrow y4 true],[true],λvals ext k=>av vals y4 λa vals=>nl vals<|nl ext<|j8m a (λ(r0:List qV)=>k [⟨y4,true,r0,[.O]⟩] [] [])⟩
theorem jbf:Z1p Tryz.prog 290 jfK:=j02 (np:=0) follows j01 (Z8K jeu Z94) [] oN false Tryz.func290 λ_ _ k _ h=>aV h λ_ _ _ _ _ h=>nL h λ_ h=>nL h λ_ h=>by subst_vars;exact .trans (by kernel_rfl) h
noncomputable def j4C (a:List qV) (b:List qV) (k0:Bool->Res):Res:=
 j3w a b λ(r:Bool)=>
  bif !r then
   k0 false
  else
   k0 true
noncomputable def jbA:Sig Unit:=⟨[.look y4 true,.look y4 true],[false],λvals ext k=>av vals y4 λa vals=>av vals y4 λb vals=>nl vals<|nl ext<|j4C a b (λ(r0:Bool)=>k [wB r0] [] [])⟩
theorem j8v:Z1p Tryz.prog 295 jbA:=j02 (np:=0) follows j01 (Z8K jaN Z94) [] oN false Tryz.func295 λ_ _ k _ h=>aV h λ_ _ _ _ _ h=>aV h λ_ _ _ _ _ h=>nL h λ_ h=>nL h λ_ h=>by subst_vars;exact .trans (by kernel_rfl) h
end Go.PI.G
