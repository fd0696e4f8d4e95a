/-
  Program's code interpreted over typed values; printed texts; plain laws. No conditions.
-/
import Derived.Test.YtnemiodjnhfejaaGreatPPb
import Derived.Test.YtnemiodjnhfejaaGreatPPc
set_option linter.unusedVariables false
set_option maxRecDepth 100000
namespace Go.PI.G
open Go Go.PI Go.Proofs
open Go.Code (pl pr)
noncomputable def j1U (a:List qC) (left:Int) (i:Int) (rec:Int->Int->Res) (k0:Int->Res) (k1:Unit->Res):Res:=
 bif decide (i<(nI (List.length a))) then
  bif inb i (List.length a) then
   j6s (nth (eS,0,false,false,0,0,eS) a i) left λ(r:Int)=>
    bif decide (r<0) then
     k1 ()
    else
     rec r (Z9L (i+1))
  else none
 else
  k0 left
noncomputable def j6K (a:List qC):(Int×Int)->(Int×Int->Res)->((Int->Res)×(Unit->Res))->Res:=λv rec q=>j1U a v.1 v.2 (λleft i=>rec (left,i)) q.1 q.2
noncomputable def j3W (a:List qC) (n:Nat) (left:Int) (i:Int) (k0:Int->Res) (k1:Unit->Res):Res:=Z1g (j6K a) n (left,i) (k0,k1)
noncomputable def j7k:Z1e Unit:=λσ k=>rdN σ 27<|rd1 σ 0 y8 .S λa=>rdI σ 1 λleft=>rdI σ 5 λi=>j3W a Z1d left i (λ(left1:Int)=>k (.exit 0) (mkS 27 27 [(1,vI left1)] [])) (λ(_:Unit)=>k .ret (mkS 27 27 [(4,vI (-1))] []))
theorem j9T {W0:Base} {M:Nat->Prop} (hnp:W0.np<=0):Z15 Tryz.prog W0 M (cAt 122 (bo Tryz.f241)) j7k:=j08 follows j00 (Za7 j8r Zat) hnp [] oN [0,1,5] [] ([],[]) [(0,[1],[])] ([4],[]) λσ k _ h=>rN h λhn h=>rV h λa h0 h=>rV h λleft h1 h=>rV h λi h5 h=>⟨_,ZaN (m:=27) hn (sC h0 (sC h1 (sC h5 sN))) bN,.trans (Z9v (λv:Int×Int=>(mkS 27 27 [(0,v1 y8 a .S),(1,vI v.1),(5,vI v.2)] [])) (j6K a) (λ(k:Z84 Unit)=>(((λ(left1:Int)=>k (.exit 0) (mkS 27 27 [(1,vI left1)] [])),(λ(_:Unit)=>k .ret (mkS 27 27 [(4,vI (-1))] []))):(Int->Res)×(Unit->Res))) (λv rec k=>by kernel_rfl) Z1d (left,i) k) h⟩
noncomputable def j4k (a:List qC) (left:Int) (k0:Int->Res):Res:=
 bif decide ((Z9L (left-(nI (List.length a))))<0) then
  k0 (-1)
 else
  j3W a Z1d (Z9L (left-(nI (List.length a)))) 0
   (λ(left1:Int)=>
    k0 left1)
   (λ(_:Unit)=>
    k0 (-1))
noncomputable def j8e:Sig Unit:=⟨[.look y8 false,.look tI false],[false],λvals ext k=>av vals y8 λa vals=>av vals tI λleft vals=>nl vals<|nl ext<|j4k a left (λ(r0:Int)=>k [wI r0] [] [])⟩
theorem jaQ:Z18 Tryz.prog 241 j8e:=j02 (np:=0) follows j00 (Za7 j8r Zat) [j7k] (oI 122 0 (j9T) oN) false Tryz.func241 λ_ _ k _ h=>aV h λ_ _ _ _ _ h=>aV h λ_ _ _ _ _ h=>nL h λ_ h=>nL h λ_ h=>by subst_vars;exact .trans (by kernel_rfl) h
noncomputable def j1W (a:List qC) (out:List qC) (i:Int) (rec:qE->Int->Res) (k0:qE->Res):Res:=
 bif decide (i<(nI (List.length a))) then
  bif inb i (List.length a) then
   j6t (nth (eS,0,false,false,0,0,eS) a i) λ(r:qB×Int×Bool×Bool×Int×Int×qB)=>
    bif inb i (List.length out) then
     rec (upd out i r) (Z9L (i+1))
    else none
  else none
 else
  k0 out
noncomputable def j4C (a:List qC):(qE×Int)->(qE×Int->Res)->((qE->Res))->Res:=λv rec q=>j1W a v.1 v.2 (λout i=>rec (out,i)) q
noncomputable def j7D (a:List qC) (n:Nat) (out:List qC) (i:Int) (k0:qE->Res):Res:=Z1g (j4C a) n (out,i) (k0)
noncomputable def j7m:Z1e Unit:=λσ k=>rdN σ 23<|rd1 σ 0 y8 .S λa=>rd1 σ 3 y8 .O λout=>rdI σ 4 λi=>j7D a Z1d out i (λ(out1:List qC)=>k (.exit 0) (mkS 23 23 [(3,v1 y8 out1 .O)] []))
theorem j9V {W0:Base} {M:Nat->Prop} (hnp:W0.np<=0):Z15 Tryz.prog W0 M (cAt 58 (bo Tryz.f249)) j7m:=j08 follows j00 (Za7 j8s Zat) hnp [] oN [0,3,4] [] ([],[]) [(0,[3],[])] ([],[]) λσ k _ h=>rN h λhn h=>rV h λa h0 h=>rV h λout h3 h=>rV h λi h4 h=>⟨_,ZaN (m:=23) hn (sC h0 (sC h3 (sC h4 sN))) bN,.trans (Z9v (λv:qE×Int=>(mkS 23 23 [(0,v1 y8 a .S),(3,v1 y8 v.1 .O),(4,vI v.2)] [])) (j4C a) (λ(k:Z84 Unit)=>(((λ(out1:List qC)=>k (.exit 0) (mkS 23 23 [(3,v1 y8 out1 .O)] []))):(qE->Res))) (λv rec k=>by kernel_rfl) Z1d (out,i) k) h⟩
noncomputable def j4m (a:List qC) (k0:qE->Res):Res:=
 bif Z9J (nI (List.length a)) (nI (List.length a)) then
  j7D a Z1d (Z9i (nI (List.length a)) (eS,0,false,false,0,0,eS)) 0 λ(out:List qC)=>
   k0 out
 else none
noncomputable def j8h:Sig Unit:=⟨[.borrow y8 false],[false],λvals ext k=>av vals y8 λa vals=>nl vals<|nl ext<|j4m a (λ(r0:List qC)=>k [w1 y8 r0 .O] [] [])⟩
theorem jaS:Z18 Tryz.prog 249 j8h:=j02 (np:=0) follows j00 (Za7 j8s Zat) [j7m] (oI 58 0 (j9V) oN) false Tryz.func249 λ_ _ k _ h=>aV h λ_ _ _ _ _ h=>nL h λ_ h=>nL h λ_ h=>by subst_vars;exact .trans (by kernel_rfl) h
noncomputable def j1P (a:List qC) (b:List qC) (i:Int) (rec:Int->Res) (k0:Unit->Res) (k1:Unit->Res):Res:=
 bif decide (i<(nI (List.length a))) then
  bif inb i (List.length a) then
   bif inb i (List.length b) then
    j6r (nth (eS,0,false,false,0,0,eS) a i) (nth (eS,0,false,false,0,0,eS) b i) λ(r:Bool)=>
     bif !r then
      k1 ()
     else
      rec (Z9L (i+1))
   else none
  else none
 else
  k0 ()
noncomputable def j6I (a:List qC) (b:List qC):Int->(Int->Res)->((Unit->Res)×(Unit->Res))->Res:=λv rec q=>j1P a b v (λi=>rec (i)) q.1 q.2
noncomputable def j5F (a:List qC) (b:List qC) (n:Nat) (i:Int) (k0:Unit->Res) (k1:Unit->Res):Res:=Z1g (j6I a b) n (i) (k0,k1)
noncomputable def j7i:Z1e Unit:=λσ k=>rdN σ 27<|rd1 σ 0 y8 .S λa=>rd1 σ 1 y8 .S λb=>rdI σ 5 λi=>j5F a b Z1d i (λ(_:Unit)=>k (.exit 0) (mkS 27 27 [] [])) (λ(_:Unit)=>k .ret (mkS 27 27 [(4,vB false)] []))
theorem j9R {W0:Base} {M:Nat->Prop} (hnp:W0.np<=0):Z15 Tryz.prog W0 M (cAt 58 (bo Tryz.f258)) j7i:=j08 follows j00 (Za7 j8p Zat) hnp [] oN [0,1,5] [] ([],[]) [(0,[],[])] ([4],[]) λσ k _ h=>rN h λhn h=>rV h λa h0 h=>rV h λb h1 h=>rV h λi h5 h=>⟨_,ZaN (m:=27) hn (sC h0 (sC h1 (sC h5 sN))) bN,.trans (Z9v (λv:Int=>(mkS 27 27 [(0,v1 y8 a .S),(1,v1 y8 b .S),(5,vI v)] [])) (j6I a b) (λ(k:Z84 Unit)=>(((λ(_:Unit)=>k (.exit 0) (mkS 27 27 [] [])),(λ(_:Unit)=>k .ret (mkS 27 27 [(4,vB false)] []))):(Unit->Res)×(Unit->Res))) (λv rec k=>by kernel_rfl) Z1d (i) k) h⟩
noncomputable def j4i (a:List qC) (b:List qC) (k0:Bool->Res):Res:=
 bif ((nI (List.length a)) != (nI (List.length b))) then
  k0 false
 else
  j5F a b Z1d 0
   (λ(_:Unit)=>
    k0 true)
   (λ(_:Unit)=>
    k0 false)
noncomputable def j8b:Sig Unit:=⟨[.look y8 false,.look y8 false],[false],λvals ext k=>av vals y8 λa vals=>av vals y8 λb vals=>nl vals<|nl ext<|j4i a b (λ(r0:Bool)=>k [wB r0] [] [])⟩
theorem jaO:Z18 Tryz.prog 258 j8b:=j02 (np:=0) follows j00 (Za7 j8p Zat) [j7i] (oI 58 0 (j9R) oN) false Tryz.func258 λ_ _ k _ h=>aV h λ_ _ _ _ _ h=>aV h λ_ _ _ _ _ h=>nL h λ_ h=>nL h λ_ h=>by subst_vars;exact .trans (by kernel_rfl) h
noncomputable def j1R (a:List qC) (k_:Int) (i:Int) (k0:qE->Res):Res:=
 bif inb i (List.length a) then
  k0 (upd a i ((nth (eS,0,false,false,0,0,eS) a i).1,(nth (eS,0,false,false,0,0,eS) a i).2.1,((Int.tmod k_ 3)==0),(nth (eS,0,false,false,0,0,eS) a i).2.2.2))
 else none
noncomputable def j0Y:Z1e Unit:=λσ k=>rdN σ 71<|rd1 σ 0 y8 .O λa=>rdI σ 1 λk_=>rdI σ 5 λi=>j1R a k_ i (λ(a1:List qC)=>k .normal (mkS 71 71 [(0,v1 y8 a1 .O),(1,vI k_),(5,vI i)] []))
theorem j93 {W0:Base} {M:Nat->Prop} (hnp:W0.np<=1):Z15 Tryz.prog W0 M (cAt 13470 (bo Tryz.f111)) j0Y:=j2s follows j00 (Za7 j06 Zat) hnp [] oN ([0,1,5],[]) [] ([],[]) λσ k _ h=>rN h λhn h=>rV h λa h0 h=>rV h λk_ h1 h=>rV h λi h5 h=>⟨_,ZaN (m:=71) hn (sC h0 (sC h1 (sC h5 sN))) bN,.trans (by kernel_rfl) h⟩
noncomputable def j1S (a:List qC) (k_:Int) (i:Int) (k0:qE->Res):Res:=
 bif inb i (List.length a) then
  k0 (upd a i ((nth (eS,0,false,false,0,0,eS) a i).1,(nth (eS,0,false,false,0,0,eS) a i).2.1,(nth (eS,0,false,false,0,0,eS) a i).2.2.1,(nth (eS,0,false,false,0,0,eS) a i).2.2.2.1,k_,(nth (eS,0,false,false,0,0,eS) a i).2.2.2.2.2))
 else none
noncomputable def j1I:Z1e Unit:=λσ k=>rdN σ 71<|rd1 σ 0 y8 .O λa=>rdI σ 1 λk_=>rdI σ 5 λi=>j1S a k_ i (λ(a1:List qC)=>k .normal (mkS 71 71 [(0,v1 y8 a1 .O),(1,vI k_),(5,vI i)] []))
theorem j94 {W0:Base} {M:Nat->Prop} (hnp:W0.np<=1):Z15 Tryz.prog W0 M (cAt 215550 (bo Tryz.f111)) j1I:=j2s follows j00 (Za7 j06 Zat) hnp [j0Y] oN ([0,1,5],[]) [] ([],[]) λσ k _ h=>rN h λhn h=>rV h λa h0 h=>rV h λk_ h1 h=>rV h λi h5 h=>⟨_,ZaN (m:=71) hn (sC h0 (sC h1 (sC h5 sN))) bN,.trans (by kernel_rfl) h⟩
noncomputable def j1T (a:List qC) (k_:Int) (i:Int) (k0:qE->Res):Res:=
 j05 k_ λ(r:qB)=>
  bif inb i (List.length a) then
   k0 (upd a i ((nth (eS,0,false,false,0,0,eS) a i).1,(nth (eS,0,false,false,0,0,eS) a i).2.1,(nth (eS,0,false,false,0,0,eS) a i).2.2.1,(nth (eS,0,false,false,0,0,eS) a i).2.2.2.1,(nth (eS,0,false,false,0,0,eS) a i).2.2.2.2.1,(nth (eS,0,false,false,0,0,eS) a i).2.2.2.2.2.1,r))
  else none
noncomputable def j2L:Z1e Unit:=λσ k=>rdN σ 71<|rd1 σ 0 y8 .O λa=>rdI σ 1 λk_=>rdI σ 5 λi=>j1T a k_ i (λ(a1:List qC)=>k .normal (mkS 71 71 [(0,v1 y8 a1 .O),(1,vI k_),(5,vI i)] []))
theorem j95 {W0:Base} {M:Nat->Prop} (hnp:W0.np<=1):Z15 Tryz.prog W0 M (cAt 3448830 (bo Tryz.f111)) j2L:=j2s follows j00 (Za7 j06 Zat) hnp [j0Y,j1I] oN ([0,1,5],[]) [] ([],[]) λσ k _ h=>rN h λhn h=>rV h λa h0 h=>rV h λk_ h1 h=>rV h λi h5 h=>⟨_,ZaN (m:=71) hn (sC h0 (sC h1 (sC h5 sN))) bN,.trans (by kernel_rfl) h⟩
noncomputable def j0K (a:List qC) (k_:Int) (i:Int) (rec:qE->Int->Int->Res) (k0:qE->Int->Res):Res:=
 bif decide (i<(nI (List.length a))) then
  j05 k_ λ(r:qB)=>
   bif inb i (List.length a) then
    bif inb i (List.length (upd a i (r,(nth (eS,0,false,false,0,0,eS) a i).2))) then
     j1R (upd (upd a i (r,(nth (eS,0,false,false,0,0,eS) a i).2)) i ((nth (eS,0,false,false,0,0,eS) (upd a i (r,(nth (eS,0,false,false,0,0,eS) a i).2)) i).1,Z9L (k_+1),(nth (eS,0,false,false,0,0,eS) (upd a i (r,(nth (eS,0,false,false,0,0,eS) a i).2)) i).2.2)) (Z9L ((Z9L (k_+1))+1)) i λ(a1:List qC)=>
      bif inb i (List.length a1) then
       j1S (upd a1 i ((nth (eS,0,false,false,0,0,eS) a1 i).1,(nth (eS,0,false,false,0,0,eS) a1 i).2.1,(nth (eS,0,false,false,0,0,eS) a1 i).2.2.1,((Int.tmod (Z9L ((Z9L ((Z9L (k_+1))+1))+1)) 3)==0),(nth (eS,0,false,false,0,0,eS) a1 i).2.2.2.2)) (Z9L ((Z9L ((Z9L ((Z9L (k_+1))+1))+1))+1)) i λ(a2:List qC)=>
        bif inb i (List.length a2) then
         j1T (upd a2 i ((nth (eS,0,false,false,0,0,eS) a2 i).1,(nth (eS,0,false,false,0,0,eS) a2 i).2.1,(nth (eS,0,false,false,0,0,eS) a2 i).2.2.1,(nth (eS,0,false,false,0,0,eS) a2 i).2.2.2.1,(nth (eS,0,false,false,0,0,eS) a2 i).2.2.2.2.1,Z9L ((Z9L ((Z9L ((Z9L ((Z9L (k_+1))+1))+1))+1))+1),(nth (eS,0,false,false,0,0,eS) a2 i).2.2.2.2.2.2)) (Z9L ((Z9L ((Z9L ((Z9L ((Z9L ((Z9L (k_+1))+1))+1))+1))+1))+1)) i λ(a3:List qC)=>
          rec a3 (Z9L ((Z9L ((Z9L ((Z9L ((Z9L ((Z9L ((Z9L (k_+1))+1))+1))+1))+1))+1))+1)) (Z9L (i+1))
        else none
      else none
    else none
   else none
 else
  k0 a k_
noncomputable def j2q:(qE×Int×Int)->(qE×Int×Int->Res)->((qE->Int->Res))->Res:=λv rec q=>j0K v.1 v.2.1 v.2.2 (λa k_ i=>rec (a,k_,i)) q
noncomputable def j4z (n:Nat) (a:List qC) (k_:Int) (i:Int) (k0:qE->Int->Res):Res:=Z1g (j2q) n (a,k_,i) (k0)
noncomputable def j6k:Z1e Unit:=λσ k=>rdN σ 71<|rd1 σ 0 y8 .O λa=>rdI σ 1 λk_=>rdI σ 5 λi=>j4z Z1d a k_ i (λ(a4:List qC) (k_1:Int)=>k (.exit 0) (mkS 71 71 [(0,v1 y8 a4 .O),(1,vI k_1)] []))
theorem j92 {W0:Base} {M:Nat->Prop} (hnp:W0.np<=1):Z15 Tryz.prog W0 M (cAt 26 (bo Tryz.f111)) j6k:=j08 follows j00 (Za7 j06 Zat) hnp [j0Y,j1I,j2L] (oI 414 0 (j93) (oI 6654 1 (j94) (oI 106494 2 (j95) oN))) [0,1,5] [] ([],[]) [(0,[0,1],[])] ([],[]) λσ k _ h=>rN h λhn h=>rV h λa h0 h=>rV h λk_ h1 h=>rV h λi h5 h=>⟨_,ZaN (m:=71) hn (sC h0 (sC h1 (sC h5 sN))) bN,.trans (Z9v (λv:qE×Int×Int=>(mkS 71 71 [(0,v1 y8 v.1 .O),(1,vI v.2.1),(5,vI v.2.2)] [])) (j2q) (λ(k:Z84 Unit)=>(((λ(a4:List qC) (k_1:Int)=>k (.exit 0) (mkS 71 71 [(0,v1 y8 a4 .O),(1,vI k_1)] []))):(qE->Int->Res))) (λv rec k=>by delta j2q j0K j1m j0Y j1I j2L;refine gz j05 λ_ e=> ?_;rewrite [<-e];refine gz j1R λ_ e=> ?_;rewrite [<-e];refine gz j1S λ_ e=> ?_;rewrite [<-e];refine gz j1T λ_ e=> ?_;rewrite [<-e];kernel_rfl) Z1d (a,k_,i) k) h⟩
noncomputable def j3c (a:List qC) (k_:Int) (k0:Int->qE->Res):Res:=
 j4z Z1d a k_ 0 λ(a1:List qC) (k_1:Int)=>
  k0 k_1 a1
noncomputable def j5e:Sig Unit:=⟨[.inout y8 false,.borrow tI false],[false],λvals ext k=>ao vals y8 [.O] λa vals=>av vals tI λk_ vals=>nl vals<|nl ext<|j3c a k_ (λ(r0:Int) (i0:List qC)=>k [wI r0] [w1 y8 i0 .O] [])⟩
theorem j9H:Z18 Tryz.prog 111 j5e:=j02 (np:=1) follows j00 (Za7 j06 Zat) [j0Y,j1I,j2L,j6k] (oI 26 3 (j92) oN) false Tryz.func111 λ_ _ k _ h=>aO h λ_ _ _ _ h=>aV h λ_ _ _ _ _ h=>nL h λ_ h=>nL h λ_ h=>by subst_vars;exact .trans (by kernel_rfl) h
noncomputable def j0I (a:List qC) (k_:Int) (i:Int) (rec:Int->Int->Res) (k0:Int->Res) (k1:Unit->Res):Res:=
 bif decide (i<(nI (List.length a))) then
  bif inb i (List.length a) then
   j05 k_ λ(r:qB)=>
    bif sNe (nth (eS,0,false,false,0,0,eS) a i).1 r then
     k1 ()
    else
     bif inb i (List.length a) then
      bif ((nth (eS,0,false,false,0,0,eS) a i).2.1 != (Z9L (k_+1))) then
       k1 ()
      else
       bif inb i (List.length a) then
        bif !((nth (eS,0,false,false,0,0,eS) a i).2.2.1==((Int.tmod (Z9L ((Z9L (k_+1))+1)) 3)==0)) then
         k1 ()
        else
         bif inb i (List.length a) then
          bif !((nth (eS,0,false,false,0,0,eS) a i).2.2.2.1==((Int.tmod (Z9L ((Z9L ((Z9L (k_+1))+1))+1)) 3)==0)) then
           k1 ()
          else
           bif inb i (List.length a) then
            bif ((nth (eS,0,false,false,0,0,eS) a i).2.2.2.2.1 != (Z9L ((Z9L ((Z9L ((Z9L (k_+1))+1))+1))+1))) then
             k1 ()
            else
             bif inb i (List.length a) then
              bif ((nth (eS,0,false,false,0,0,eS) a i).2.2.2.2.2.1 != (Z9L ((Z9L ((Z9L ((Z9L ((Z9L (k_+1))+1))+1))+1))+1))) then
               k1 ()
              else
               bif inb i (List.length a) then
                j05 (Z9L ((Z9L ((Z9L ((Z9L ((Z9L ((Z9L (k_+1))+1))+1))+1))+1))+1)) λ(r1:qB)=>
                 bif sNe (nth (eS,0,false,false,0,0,eS) a i).2.2.2.2.2.2 r1 then
                  k1 ()
                 else
                  rec (Z9L ((Z9L ((Z9L ((Z9L ((Z9L ((Z9L ((Z9L (k_+1))+1))+1))+1))+1))+1))+1)) (Z9L (i+1))
               else none
             else none
           else none
         else none
       else none
     else none
  else none
 else
  k0 k_
noncomputable def j2p (a:List qC):(Int×Int)->(Int×Int->Res)->((Int->Res)×(Unit->Res))->Res:=λv rec q=>j0I a v.1 v.2 (λk_ i=>rec (k_,i)) q.1 q.2
noncomputable def j4x (a:List qC) (n:Nat) (k_:Int) (i:Int) (k0:Int->Res) (k1:Unit->Res):Res:=Z1g (j2p a) n (k_,i) (k0,k1)
noncomputable def j6i:Z1e Unit:=λσ k=>rdN σ 85<|rd1 σ 0 y8 .S λa=>rdI σ 1 λk_=>rdI σ 5 λi=>j4x a Z1d k_ i (λ(k_1:Int)=>k (.exit 0) (mkS 85 85 [(1,vI k_1)] [])) (λ(_:Unit)=>k .ret (mkS 85 85 [(4,vI (-1))] []))
theorem j90 {W0:Base} {M:Nat->Prop} (hnp:W0.np<=0):Z15 Tryz.prog W0 M (cAt 26 (bo Tryz.f145)) j6i:=j08 follows j00 (Za7 j06 Zat) hnp [] oN [0,1,5] [] ([],[]) [(0,[1],[])] ([4],[]) λσ k _ h=>rN h λhn h=>rV h λa h0 h=>rV h λk_ h1 h=>rV h λi h5 h=>⟨_,ZaN (m:=85) hn (sC h0 (sC h1 (sC h5 sN))) bN,.trans (Z9v (λv:Int×Int=>(mkS 85 85 [(0,v1 y8 a .S),(1,vI v.1),(5,vI v.2)] [])) (j2p a) (λ(k:Z84 Unit)=>(((λ(k_1:Int)=>k (.exit 0) (mkS 85 85 [(1,vI k_1)] [])),(λ(_:Unit)=>k .ret (mkS 85 85 [(4,vI (-1))] []))):(Int->Res)×(Unit->Res))) (λv rec k=>by delta j2p j0I j1m;refine gz j05 λ_ e=> ?_;rewrite [<-e];kernel_rfl) Z1d (k_,i) k) h⟩
noncomputable def j3b (a:List qC) (k_:Int) (k0:Int->Res):Res:=
 j4x a Z1d k_ 0
  (λ(k_1:Int)=>
   k0 k_1)
  (λ(_:Unit)=>
   k0 (-1))
noncomputable def j5c:Sig Unit:=⟨[.look y8 false,.look tI false],[false],λvals ext k=>av vals y8 λa vals=>av vals tI λk_ vals=>nl vals<|nl ext<|j3b a k_ (λ(r0:Int)=>k [wI r0] [] [])⟩
theorem j9F:Z18 Tryz.prog 145 j5c:=j02 (np:=0) follows j00 (Za7 j06 Zat) [j6i] (oI 26 0 (j90) oN) false Tryz.func145 λ_ _ k _ h=>aV h λ_ _ _ _ _ h=>aV h λ_ _ _ _ _ h=>nL h λ_ h=>nL h λ_ h=>by subst_vars;exact .trans (by kernel_rfl) h
end Go.PI.G
namespace Go.PI.G
open Go Go.PI Go.Proofs
open Go.Code (pl pr)
noncomputable def j15 (a:qL) (left:Int) (i:Int) (rec:Int->Int->Res) (k0:Int->Res) (k1:Unit->Res):Res:=
 bif decide (i<(nI (List.length a))) then
  bif inb i (List.length a) then
   bif decide ((Z9L (left-(nI (ByteArray.size (nth eS a i)))))<0) then
    k1 ()
   else
    rec (Z9L (left-(nI (ByteArray.size (nth eS a i))))) (Z9L (i+1))
  else none
 else
  k0 left
noncomputable def j5y (a:qL):(Int×Int)->(Int×Int->Res)->((Int->Res)×(Unit->Res))->Res:=λv rec q=>j15 a v.1 v.2 (λleft i=>rec (left,i)) q.1 q.2
noncomputable def j2H (a:qL) (n:Nat) (left:Int) (i:Int) (k0:Int->Res) (k1:Unit->Res):Res:=Z1g (j5y a) n (left,i) (k0,k1)
noncomputable def j65:Z1e Unit:=λσ k=>rdN σ 28<|rd1 σ 0 y0 .S λa=>rdI σ 1 λleft=>rdI σ 5 λi=>j2H a Z1d left i (λ(left1:Int)=>k (.exit 0) (mkS 28 28 [(1,vI left1)] [])) (λ(_:Unit)=>k .ret (mkS 28 28 [(4,vI (-1))] []))
theorem j8L {W0:Base} {M:Nat->Prop} (hnp:W0.np<=0):Z15 Tryz.prog W0 M (cAt 122 (bo Tryz.f82)) j65:=j08 follows j00 Zat hnp [] oN [0,1,5] [] ([],[]) [(0,[1],[])] ([4],[]) λσ k _ h=>rN h λhn h=>rV h λa h0 h=>rV h λleft h1 h=>rV h λi h5 h=>⟨_,ZaN (m:=28) hn (sC h0 (sC h1 (sC h5 sN))) bN,.trans (Z9v (λv:Int×Int=>(mkS 28 28 [(0,v1 y0 a .S),(1,vI v.1),(5,vI v.2)] [])) (j5y a) (λ(k:Z84 Unit)=>(((λ(left1:Int)=>k (.exit 0) (mkS 28 28 [(1,vI left1)] [])),(λ(_:Unit)=>k .ret (mkS 28 28 [(4,vI (-1))] []))):(Int->Res)×(Unit->Res))) (λv rec k=>by kernel_rfl) Z1d (left,i) k) h⟩
noncomputable def j0x (a:qL) (left:Int) (k0:Int->Res):Res:=
 bif decide ((Z9L (left-(nI (List.length a))))<0) then
  k0 (-1)
 else
  j2H a Z1d (Z9L (left-(nI (List.length a)))) 0
   (λ(left1:Int)=>
    k0 left1)
   (λ(_:Unit)=>
    k0 (-1))
noncomputable def j4H:Sig Unit:=⟨[.look y0 false,.look tI false],[false],λvals ext k=>av vals y0 λa vals=>av vals tI λleft vals=>nl vals<|nl ext<|j0x a left (λ(r0:Int)=>k [wI r0] [] [])⟩
theorem j4u:Z18 Tryz.prog 82 j4H:=j02 (np:=0) follows j00 Zat [j65] (oI 122 0 (j8L) oN) false Tryz.func82 λ_ _ k _ h=>aV h λ_ _ _ _ _ h=>aV h λ_ _ _ _ _ h=>nL h λ_ h=>nL h λ_ h=>by subst_vars;exact .trans (by kernel_rfl) h
noncomputable def j16 (a:qL) (out:qL) (i:Int) (rec:qL->Int->Res) (k0:qL->Res):Res:=
 bif decide (i<(nI (List.length a))) then
  bif inb i (List.length a) then
   bif inb i (List.length out) then
    rec (upd out i (nth eS a i)) (Z9L (i+1))
   else none
  else none
 else
  k0 out
noncomputable def j3r (a:qL):(qL×Int)->(qL×Int->Res)->((qL->Res))->Res:=λv rec q=>j16 a v.1 v.2 (λout i=>rec (out,i)) q
noncomputable def j6h (a:qL) (n:Nat) (out:qL) (i:Int) (k0:qL->Res):Res:=Z1g (j3r a) n (out,i) (k0)
noncomputable def j66:Z1e Unit:=λσ k=>rdN σ 22<|rd1 σ 0 y0 .S λa=>rd1 σ 3 y0 .O λout=>rdI σ 4 λi=>j6h a Z1d out i (λ(out1:qL)=>k (.exit 0) (mkS 22 22 [(3,v1 y0 out1 .O)] []))
theorem j8M {W0:Base} {M:Nat->Prop} (hnp:W0.np<=0):Z15 Tryz.prog W0 M (cAt 58 (bo Tryz.f88)) j66:=j08 follows j00 Zat hnp [] oN [0,3,4] [] ([],[]) [(0,[3],[])] ([],[]) λσ k _ h=>rN h λhn h=>rV h λa h0 h=>rV h λout h3 h=>rV h λi h4 h=>⟨_,ZaN (m:=22) hn (sC h0 (sC h3 (sC h4 sN))) bN,.trans (Z9v (λv:qL×Int=>(mkS 22 22 [(0,v1 y0 a .S),(3,v1 y0 v.1 .O),(4,vI v.2)] [])) (j3r a) (λ(k:Z84 Unit)=>(((λ(out1:qL)=>k (.exit 0) (mkS 22 22 [(3,v1 y0 out1 .O)] []))):(qL->Res))) (λv rec k=>by kernel_rfl) Z1d (out,i) k) h⟩
noncomputable def j0y (a:qL) (k0:qL->Res):Res:=
 bif Z9J (nI (List.length a)) (nI (List.length a)) then
  j6h a Z1d (Z9i (nI (List.length a)) eS) 0 λ(out:qL)=>
   k0 out
 else none
noncomputable def j4I:Sig Unit:=⟨[.borrow y0 false],[false],λvals ext k=>av vals y0 λa vals=>nl vals<|nl ext<|j0y a (λ(r0:qL)=>k [w1 y0 r0 .O] [] [])⟩
theorem j4v:Z18 Tryz.prog 88 j4I:=j02 (np:=0) follows j00 Zat [j66] (oI 58 0 (j8M) oN) false Tryz.func88 λ_ _ k _ h=>aV h λ_ _ _ _ _ h=>nL h λ_ h=>nL h λ_ h=>by subst_vars;exact .trans (by kernel_rfl) h
noncomputable def j14 (a:qL) (b:qL) (i:Int) (rec:Int->Res) (k0:Unit->Res) (k1:Unit->Res):Res:=
 bif decide (i<(nI (List.length a))) then
  bif inb i (List.length a) then
   bif inb i (List.length b) then
    bif sNe (nth eS a i) (nth eS b i) then
     k1 ()
    else
     rec (Z9L (i+1))
   else none
  else none
 else
  k0 ()
noncomputable def j5x (a:qL) (b:qL):Int->(Int->Res)->((Unit->Res)×(Unit->Res))->Res:=λv rec q=>j14 a b v (λi=>rec (i)) q.1 q.2
noncomputable def j4a (a:qL) (b:qL) (n:Nat) (i:Int) (k0:Unit->Res) (k1:Unit->Res):Res:=Z1g (j5x a b) n (i) (k0,k1)
noncomputable def j62:Z1e Unit:=λσ k=>rdN σ 26<|rd1 σ 0 y0 .S λa=>rd1 σ 1 y0 .S λb=>rdI σ 5 λi=>j4a a b Z1d i (λ(_:Unit)=>k (.exit 0) (mkS 26 26 [] [])) (λ(_:Unit)=>k .ret (mkS 26 26 [(4,vB false)] []))
theorem j8C {W0:Base} {M:Nat->Prop} (hnp:W0.np<=0):Z15 Tryz.prog W0 M (cAt 58 (bo Tryz.f97)) j62:=j08 follows j00 Zat hnp [] oN [0,1,5] [] ([],[]) [(0,[],[])] ([4],[]) λσ k _ h=>rN h λhn h=>rV h λa h0 h=>rV h λb h1 h=>rV h λi h5 h=>⟨_,ZaN (m:=26) hn (sC h0 (sC h1 (sC h5 sN))) bN,.trans (Z9v (λv:Int=>(mkS 26 26 [(0,v1 y0 a .S),(1,v1 y0 b .S),(5,vI v)] [])) (j5x a b) (λ(k:Z84 Unit)=>(((λ(_:Unit)=>k (.exit 0) (mkS 26 26 [] [])),(λ(_:Unit)=>k .ret (mkS 26 26 [(4,vB false)] []))):(Unit->Res)×(Unit->Res))) (λv rec k=>by kernel_rfl) Z1d (i) k) h⟩
noncomputable def j0w (a:qL) (b:qL) (k0:Bool->Res):Res:=
 bif ((nI (List.length a)) != (nI (List.length b))) then
  k0 false
 else
  j4a a b Z1d 0
   (λ(_:Unit)=>
    k0 true)
   (λ(_:Unit)=>
    k0 false)
noncomputable def j4E:Sig Unit:=⟨[.look y0 false,.look y0 false],[false],λvals ext k=>av vals y0 λa vals=>av vals y0 λb vals=>nl vals<|nl ext<|j0w a b (λ(r0:Bool)=>k [wB r0] [] [])⟩
theorem j4t:Z18 Tryz.prog 97 j4E:=j02 (np:=0) follows j00 Zat [j62] (oI 58 0 (j8C) oN) false Tryz.func97 λ_ _ k _ h=>aV h λ_ _ _ _ _ h=>aV h λ_ _ _ _ _ h=>nL h λ_ h=>nL h λ_ h=>by subst_vars;exact .trans (by kernel_rfl) h
noncomputable def j0L (a:qL) (k_:Int) (i:Int) (rec:qL->Int->Int->Res) (k0:qL->Int->Res):Res:=
 bif decide (i<(nI (List.length a))) then
  j05 k_ λ(r:qB)=>
   bif inb i (List.length a) then
    rec (upd a i r) (Z9L (k_+1)) (Z9L (i+1))
   else none
 else
  k0 a k_
noncomputable def j2R:(qL×Int×Int)->(qL×Int×Int->Res)->((qL->Int->Res))->Res:=λv rec q=>j0L v.1 v.2.1 v.2.2 (λa k_ i=>rec (a,k_,i)) q
noncomputable def j3q (n:Nat) (a:qL) (k_:Int) (i:Int) (k0:qL->Int->Res):Res:=Z1g (j2R) n (a,k_,i) (k0)
noncomputable def j5u:Z1e Unit:=λσ k=>rdN σ 20<|rd1 σ 0 y0 .O λa=>rdI σ 1 λk_=>rdI σ 5 λi=>j3q Z1d a k_ i (λ(a1:qL) (k_1:Int)=>k (.exit 0) (mkS 20 20 [(0,v1 y0 a1 .O),(1,vI k_1)] []))
theorem j7X {W0:Base} {M:Nat->Prop} (hnp:W0.np<=1):Z15 Tryz.prog W0 M (cAt 26 (bo Tryz.f98)) j5u:=j08 follows j00 (Za7 j06 Zat) hnp [] oN [0,1,5] [] ([],[]) [(0,[0,1],[])] ([],[]) λσ k _ h=>rN h λhn h=>rV h λa h0 h=>rV h λk_ h1 h=>rV h λi h5 h=>⟨_,ZaN (m:=20) hn (sC h0 (sC h1 (sC h5 sN))) bN,.trans (Z9v (λv:qL×Int×Int=>(mkS 20 20 [(0,v1 y0 v.1 .O),(1,vI v.2.1),(5,vI v.2.2)] [])) (j2R) (λ(k:Z84 Unit)=>(((λ(a1:qL) (k_1:Int)=>k (.exit 0) (mkS 20 20 [(0,v1 y0 a1 .O),(1,vI k_1)] []))):(qL->Int->Res))) (λv rec k=>by kernel_rfl) Z1d (a,k_,i) k) h⟩
noncomputable def j0r (a:qL) (k_:Int) (k0:Int->qL->Res):Res:=
 j3q Z1d a k_ 0 λ(a1:qL) (k_1:Int)=>
  k0 k_1 a1
noncomputable def j3F:Sig Unit:=⟨[.inout y0 false,.borrow tI false],[false],λvals ext k=>ao vals y0 [.O] λa vals=>av vals tI λk_ vals=>nl vals<|nl ext<|j0r a k_ (λ(r0:Int) (i0:qL)=>k [wI r0] [w1 y0 i0 .O] [])⟩
theorem j5U:Z18 Tryz.prog 98 j3F:=j02 (np:=1) follows j00 (Za7 j06 Zat) [j5u] (oI 26 0 (j7X) oN) false Tryz.func98 λ_ _ k _ h=>aO h λ_ _ _ _ h=>aV h λ_ _ _ _ _ h=>nL h λ_ h=>nL h λ_ h=>by subst_vars;exact .trans (by kernel_rfl) h
noncomputable def j0J (a:qL) (k_:Int) (i:Int) (rec:Int->Int->Res) (k0:Int->Res) (k1:Unit->Res):Res:=
 bif decide (i<(nI (List.length a))) then
  bif inb i (List.length a) then
   j05 k_ λ(r:qB)=>
    bif sNe (nth eS a i) r then
     k1 ()
    else
     rec (Z9L (k_+1)) (Z9L (i+1))
  else none
 else
  k0 k_
noncomputable def j2Q (a:qL):(Int×Int)->(Int×Int->Res)->((Int->Res)×(Unit->Res))->Res:=λv rec q=>j0J a v.1 v.2 (λk_ i=>rec (k_,i)) q.1 q.2
noncomputable def j3p (a:qL) (n:Nat) (k_:Int) (i:Int) (k0:Int->Res) (k1:Unit->Res):Res:=Z1g (j2Q a) n (k_,i) (k0,k1)
noncomputable def j5t:Z1e Unit:=λσ k=>rdN σ 22<|rd1 σ 0 y0 .S λa=>rdI σ 1 λk_=>rdI σ 5 λi=>j3p a Z1d k_ i (λ(k_1:Int)=>k (.exit 0) (mkS 22 22 [(1,vI k_1)] [])) (λ(_:Unit)=>k .ret (mkS 22 22 [(4,vI (-1))] []))
theorem j7W {W0:Base} {M:Nat->Prop} (hnp:W0.np<=0):Z15 Tryz.prog W0 M (cAt 26 (bo Tryz.f146)) j5t:=j08 follows j00 (Za7 j06 Zat) hnp [] oN [0,1,5] [] ([],[]) [(0,[1],[])] ([4],[]) λσ k _ h=>rN h λhn h=>rV h λa h0 h=>rV h λk_ h1 h=>rV h λi h5 h=>⟨_,ZaN (m:=22) hn (sC h0 (sC h1 (sC h5 sN))) bN,.trans (Z9v (λv:Int×Int=>(mkS 22 22 [(0,v1 y0 a .S),(1,vI v.1),(5,vI v.2)] [])) (j2Q a) (λ(k:Z84 Unit)=>(((λ(k_1:Int)=>k (.exit 0) (mkS 22 22 [(1,vI k_1)] [])),(λ(_:Unit)=>k .ret (mkS 22 22 [(4,vI (-1))] []))):(Int->Res)×(Unit->Res))) (λv rec k=>by kernel_rfl) Z1d (k_,i) k) h⟩
noncomputable def j0G (a:qL) (k_:Int) (k0:Int->Res):Res:=
 j3p a Z1d k_ 0
  (λ(k_1:Int)=>
   k0 k_1)
  (λ(_:Unit)=>
   k0 (-1))
noncomputable def j3E:Sig Unit:=⟨[.look y0 false,.look tI false],[false],λvals ext k=>av vals y0 λa vals=>av vals tI λk_ vals=>nl vals<|nl ext<|j0G a k_ (λ(r0:Int)=>k [wI r0] [] [])⟩
theorem j8q:Z18 Tryz.prog 146 j3E:=j02 (np:=0) follows j00 (Za7 j06 Zat) [j5t] (oI 26 0 (j7W) oN) false Tryz.func146 λ_ _ k _ h=>aV h λ_ _ _ _ _ h=>aV h λ_ _ _ _ _ h=>nL h λ_ h=>nL h λ_ h=>by subst_vars;exact .trans (by kernel_rfl) h
end Go.PI.G
namespace Go.PI.G
open Go Go.PI Go.Proofs
open Go.Code (pl pr)
noncomputable def j3X (a:qG) (left:Int) (k0:Int->Res):Res:=
 bif decide ((Z9L (left-(nI (ByteArray.size a.2.1))))<0) then
  k0 (-1)
 else
  j4k a.2.2.1 (Z9L (left-(nI (ByteArray.size a.2.1)))) λ(r:Int)=>
   bif decide (r<0) then
    k0 (-1)
   else
    j0x a.2.2.2.1 r λ(r1:Int)=>
     bif decide (r1<0) then
      k0 (-1)
     else
      bif decide ((Z9L (r1-(nI (ByteArray.size a.2.2.2.2.1))))<0) then
       k0 (-1)
      else
       bif decide ((Z9L ((Z9L (r1-(nI (ByteArray.size a.2.2.2.2.1))))-(nI (ByteArray.size a.2.2.2.2.2))))<0) then
        k0 (-1)
       else
        k0 (Z9L ((Z9L (r1-(nI (ByteArray.size a.2.2.2.2.1))))-(nI (ByteArray.size a.2.2.2.2.2))))
noncomputable def j8R:Sig Unit:=⟨[.look y13 true,.look tI false],[false],λvals ext k=>av vals y13 λa vals=>av vals tI λleft vals=>nl vals<|nl ext<|j3X a left (λ(r0:Int)=>k [wI r0] [] [])⟩
theorem jbj:Z18 Tryz.prog 185 j8R:=j02 (np:=0) follows j00 (Za7 j4u (Za7 jaQ Zat)) [] oN false Tryz.func185 λ_ _ k _ h=>aV h λ_ _ _ _ _ h=>aV h λ_ _ _ _ _ h=>nL h λ_ h=>nL h λ_ h=>by subst_vars;exact .trans (by delta j3X j8e j4H;refine gz j4k λ_ e=> ?_;rewrite [<-e];refine gz j0x λ_ e=> ?_;rewrite [<-e];kernel_rfl) h
noncomputable def j3Z (a:qG) (k0:qG->Res):Res:=
 j4m a.2.2.1 λ(r:List qC)=>
  j0y a.2.2.2.1 λ(r1:qL)=>
   k0 (a.1,a.2.1,r,r1,a.2.2.2.2.1,a.2.2.2.2.2)
noncomputable def j8T:Sig Unit:=⟨[.borrow y13 true],[true],λvals ext k=>av vals y13 λa vals=>nl vals<|nl ext<|j3Z a (λ(r0:qG)=>k [⟨y13,true,r0,[.O,.O]⟩] [] [])⟩
theorem jbm:Z18 Tryz.prog 194 j8T:=j02 (np:=0) follows j00 (Za7 j4v (Za7 jaS Zat)) [] oN false Tryz.func194 λ_ _ k _ h=>aV h λ_ _ _ _ _ h=>nL h λ_ h=>nL h λ_ h=>by subst_vars;exact .trans (by delta j3Z j8h j4I;refine gz j4m λ_ e=> ?_;rewrite [<-e];refine gz j0y λ_ e=> ?_;rewrite [<-e];kernel_rfl) h
noncomputable def j3T (a:qG) (b:qG) (k0:Bool->Res):Res:=
 bif (a.1 != b.1) then
  k0 false
 else
  bif sNe a.2.1 b.2.1 then
   k0 false
  else
   j4i a.2.2.1 b.2.2.1 λ(r:Bool)=>
    bif !r then
     k0 false
    else
     j0w a.2.2.2.1 b.2.2.2.1 λ(r1:Bool)=>
      bif !r1 then
       k0 false
      else
       bif sNe a.2.2.2.2.1 b.2.2.2.2.1 then
        k0 false
       else
        bif sNe a.2.2.2.2.2 b.2.2.2.2.2 then
         k0 false
        else
         k0 true
noncomputable def j8P:Sig Unit:=⟨[.look y13 true,.look y13 true],[false],λvals ext k=>av vals y13 λa vals=>av vals y13 λb vals=>nl vals<|nl ext<|j3T a b (λ(r0:Bool)=>k [wB r0] [] [])⟩
theorem jbg:Z18 Tryz.prog 200 j8P:=j02 (np:=0) follows j00 (Za7 j4t (Za7 jaO Zat)) [] oN false Tryz.func200 λ_ _ k _ h=>aV h λ_ _ _ _ _ h=>aV h λ_ _ _ _ _ h=>nL h λ_ h=>nL h λ_ h=>by subst_vars;exact .trans (by delta j3T j8b j4E;refine gz j4i λ_ e=> ?_;rewrite [<-e];refine gz j0w λ_ e=> ?_;rewrite [<-e];kernel_rfl) h
end Go.PI.G
namespace Go.PI.G
open Go Go.PI Go.Proofs
open Go.Code (pl pr)
noncomputable def j1V (a:List qV) (left:Int) (i:Int) (rec:Int->Int->Res) (k0:Int->Res) (k1:Unit->Res):Res:=
 bif decide (i<(nI (List.length a))) then
  bif inb i (List.length a) then
   j55 (nth (0,0,eS) a i) left λ(r:Int)=>
    bif decide (r<0) then
     k1 ()
    else
     rec r (Z9L (i+1))
  else none
 else
  k0 left
noncomputable def j6L (a:List qV):(Int×Int)->(Int×Int->Res)->((Int->Res)×(Unit->Res))->Res:=λv rec q=>j1V a v.1 v.2 (λleft i=>rec (left,i)) q.1 q.2
noncomputable def j3Y (a:List qV) (n:Nat) (left:Int) (i:Int) (k0:Int->Res) (k1:Unit->Res):Res:=Z1g (j6L a) n (left,i) (k0,k1)
noncomputable def j7l:Z1e Unit:=λσ k=>rdN σ 27<|rd1 σ 0 y3 .S λa=>rdI σ 1 λleft=>rdI σ 5 λi=>j3Y a Z1d left i (λ(left1:Int)=>k (.exit 0) (mkS 27 27 [(1,vI left1)] [])) (λ(_:Unit)=>k .ret (mkS 27 27 [(4,vI (-1))] []))
theorem j9U {W0:Base} {M:Nat->Prop} (hnp:W0.np<=0):Z15 Tryz.prog W0 M (cAt 122 (bo Tryz.f37)) j7l:=j08 follows j00 (Za7 j6B Zat) hnp [] oN [0,1,5] [] ([],[]) [(0,[1],[])] ([4],[]) λσ k _ h=>rN h λhn h=>rV h λa h0 h=>rV h λleft h1 h=>rV h λi h5 h=>⟨_,ZaN (m:=27) hn (sC h0 (sC h1 (sC h5 sN))) bN,.trans (Z9v (λv:Int×Int=>(mkS 27 27 [(0,v1 y3 a .S),(1,vI v.1),(5,vI v.2)] [])) (j6L a) (λ(k:Z84 Unit)=>(((λ(left1:Int)=>k (.exit 0) (mkS 27 27 [(1,vI left1)] [])),(λ(_:Unit)=>k .ret (mkS 27 27 [(4,vI (-1))] []))):(Int->Res)×(Unit->Res))) (λv rec k=>by kernel_rfl) Z1d (left,i) k) h⟩
noncomputable def j3k (a:List qV) (left:Int) (k0:Int->Res):Res:=
 bif decide ((Z9L (left-(nI (List.length a))))<0) then
  k0 (-1)
 else
  j3Y a Z1d (Z9L (left-(nI (List.length a)))) 0
   (λ(left1:Int)=>
    k0 left1)
   (λ(_:Unit)=>
    k0 (-1))
noncomputable def j8g:Sig Unit:=⟨[.look y3 false,.look tI false],[false],λvals ext k=>av vals y3 λa vals=>av vals tI λleft vals=>nl vals<|nl ext<|j3k a left (λ(r0:Int)=>k [wI r0] [] [])⟩
theorem j87:Z18 Tryz.prog 37 j8g:=j02 (np:=0) follows j00 (Za7 j6B Zat) [j7l] (oI 122 0 (j9U) oN) false Tryz.func37 λ_ _ k _ h=>aV h λ_ _ _ _ _ h=>aV h λ_ _ _ _ _ h=>nL h λ_ h=>nL h λ_ h=>by subst_vars;exact .trans (by kernel_rfl) h
noncomputable def j1X (a:List qV) (out:List qV) (i:Int) (rec:qW->Int->Res) (k0:qW->Res):Res:=
 bif decide (i<(nI (List.length a))) then
  bif inb i (List.length a) then
   j58 (nth (0,0,eS) a i) λ(r:Int×Int×qB)=>
    bif inb i (List.length out) then
     rec (upd out i r) (Z9L (i+1))
    else none
  else none
 else
  k0 out
noncomputable def j4D (a:List qV):(qW×Int)->(qW×Int->Res)->((qW->Res))->Res:=λv rec q=>j1X a v.1 v.2 (λout i=>rec (out,i)) q
noncomputable def j7E (a:List qV) (n:Nat) (out:List qV) (i:Int) (k0:qW->Res):Res:=Z1g (j4D a) n (out,i) (k0)
noncomputable def j7n:Z1e Unit:=λσ k=>rdN σ 23<|rd1 σ 0 y3 .S λa=>rd1 σ 3 y3 .O λout=>rdI σ 4 λi=>j7E a Z1d out i (λ(out1:List qV)=>k (.exit 0) (mkS 23 23 [(3,v1 y3 out1 .O)] []))
theorem j9W {W0:Base} {M:Nat->Prop} (hnp:W0.np<=0):Z15 Tryz.prog W0 M (cAt 58 (bo Tryz.f39)) j7n:=j08 follows j00 (Za7 j6C Zat) hnp [] oN [0,3,4] [] ([],[]) [(0,[3],[])] ([],[]) λσ k _ h=>rN h λhn h=>rV h λa h0 h=>rV h λout h3 h=>rV h λi h4 h=>⟨_,ZaN (m:=23) hn (sC h0 (sC h3 (sC h4 sN))) bN,.trans (Z9v (λv:qW×Int=>(mkS 23 23 [(0,v1 y3 a .S),(3,v1 y3 v.1 .O),(4,vI v.2)] [])) (j4D a) (λ(k:Z84 Unit)=>(((λ(out1:List qV)=>k (.exit 0) (mkS 23 23 [(3,v1 y3 out1 .O)] []))):(qW->Res))) (λv rec k=>by kernel_rfl) Z1d (out,i) k) h⟩
noncomputable def j3m (a:List qV) (k0:qW->Res):Res:=
 bif Z9J (nI (List.length a)) (nI (List.length a)) then
  j7E a Z1d (Z9i (nI (List.length a)) (0,0,eS)) 0 λ(out:List qV)=>
   k0 out
 else none
noncomputable def j8j:Sig Unit:=⟨[.borrow y3 false],[false],λvals ext k=>av vals y3 λa vals=>nl vals<|nl ext<|j3m a (λ(r0:List qV)=>k [w1 y3 r0 .O] [] [])⟩
theorem j89:Z18 Tryz.prog 39 j8j:=j02 (np:=0) follows j00 (Za7 j6C Zat) [j7n] (oI 58 0 (j9W) oN) false Tryz.func39 λ_ _ k _ h=>aV h λ_ _ _ _ _ h=>nL h λ_ h=>nL h λ_ h=>by subst_vars;exact .trans (by kernel_rfl) h
noncomputable def j1Q (a:List qV) (b:List qV) (i:Int) (rec:Int->Res) (k0:Unit->Res) (k1:Unit->Res):Res:=
 bif decide (i<(nI (List.length a))) then
  bif inb i (List.length a) then
   bif inb i (List.length b) then
    j51 (nth (0,0,eS) a i) (nth (0,0,eS) b i) λ(r:Bool)=>
     bif !r then
      k1 ()
     else
      rec (Z9L (i+1))
   else none
  else none
 else
  k0 ()
noncomputable def j6J (a:List qV) (b:List qV):Int->(Int->Res)->((Unit->Res)×(Unit->Res))->Res:=λv rec q=>j1Q a b v (λi=>rec (i)) q.1 q.2
noncomputable def j5G (a:List qV) (b:List qV) (n:Nat) (i:Int) (k0:Unit->Res) (k1:Unit->Res):Res:=Z1g (j6J a b) n (i) (k0,k1)
noncomputable def j7j:Z1e Unit:=λσ k=>rdN σ 27<|rd1 σ 0 y3 .S λa=>rd1 σ 1 y3 .S λb=>rdI σ 5 λi=>j5G a b Z1d i (λ(_:Unit)=>k (.exit 0) (mkS 27 27 [] [])) (λ(_:Unit)=>k .ret (mkS 27 27 [(4,vB false)] []))
theorem j9S {W0:Base} {M:Nat->Prop} (hnp:W0.np<=0):Z15 Tryz.prog W0 M (cAt 58 (bo Tryz.f41)) j7j:=j08 follows j00 (Za7 j6A Zat) hnp [] oN [0,1,5] [] ([],[]) [(0,[],[])] ([4],[]) λσ k _ h=>rN h λhn h=>rV h λa h0 h=>rV h λb h1 h=>rV h λi h5 h=>⟨_,ZaN (m:=27) hn (sC h0 (sC h1 (sC h5 sN))) bN,.trans (Z9v (λv:Int=>(mkS 27 27 [(0,v1 y3 a .S),(1,v1 y3 b .S),(5,vI v)] [])) (j6J a b) (λ(k:Z84 Unit)=>(((λ(_:Unit)=>k (.exit 0) (mkS 27 27 [] [])),(λ(_:Unit)=>k .ret (mkS 27 27 [(4,vB false)] []))):(Unit->Res)×(Unit->Res))) (λv rec k=>by kernel_rfl) Z1d (i) k) h⟩
noncomputable def j3i (a:List qV) (b:List qV) (k0:Bool->Res):Res:=
 bif ((nI (List.length a)) != (nI (List.length b))) then
  k0 false
 else
  j5G a b Z1d 0
   (λ(_:Unit)=>
    k0 true)
   (λ(_:Unit)=>
    k0 false)
noncomputable def j8d:Sig Unit:=⟨[.look y3 false,.look y3 false],[false],λvals ext k=>av vals y3 λa vals=>av vals y3 λb vals=>nl vals<|nl ext<|j3i a b (λ(r0:Bool)=>k [wB r0] [] [])⟩
theorem j85:Z18 Tryz.prog 41 j8d:=j02 (np:=0) follows j00 (Za7 j6A Zat) [j7j] (oI 58 0 (j9S) oN) false Tryz.func41 λ_ _ k _ h=>aV h λ_ _ _ _ _ h=>aV h λ_ _ _ _ _ h=>nL h λ_ h=>nL h λ_ h=>by subst_vars;exact .trans (by kernel_rfl) h
noncomputable def j1h (a:List qV) (k_:Int) (i:Int) (rec:qW->Int->Int->Res) (k0:qW->Int->Res):Res:=
 bif decide (i<(nI (List.length a))) then
  bif inb i (List.length a) then
   bif inb i (List.length (upd a i (k_,(nth (0,0,eS) a i).2))) then
    j05 (Z9L ((Z9L (k_+1))+1)) λ(r:qB)=>
     bif inb i (List.length (upd (upd a i (k_,(nth (0,0,eS) a i).2)) i ((nth (0,0,eS) (upd a i (k_,(nth (0,0,eS) a i).2)) i).1,Z9L (k_+1),(nth (0,0,eS) (upd a i (k_,(nth (0,0,eS) a i).2)) i).2.2))) then
      rec (upd (upd (upd a i (k_,(nth (0,0,eS) a i).2)) i ((nth (0,0,eS) (upd a i (k_,(nth (0,0,eS) a i).2)) i).1,Z9L (k_+1),(nth (0,0,eS) (upd a i (k_,(nth (0,0,eS) a i).2)) i).2.2)) i ((nth (0,0,eS) (upd (upd a i (k_,(nth (0,0,eS) a i).2)) i ((nth (0,0,eS) (upd a i (k_,(nth (0,0,eS) a i).2)) i).1,Z9L (k_+1),(nth (0,0,eS) (upd a i (k_,(nth (0,0,eS) a i).2)) i).2.2)) i).1,(nth (0,0,eS) (upd (upd a i (k_,(nth (0,0,eS) a i).2)) i ((nth (0,0,eS) (upd a i (k_,(nth (0,0,eS) a i).2)) i).1,Z9L (k_+1),(nth (0,0,eS) (upd a i (k_,(nth (0,0,eS) a i).2)) i).2.2)) i).2.1,r)) (Z9L ((Z9L ((Z9L (k_+1))+1))+1)) (Z9L (i+1))
     else none
   else none
  else none
 else
  k0 a k_
noncomputable def j3C:(qW×Int×Int)->(qW×Int×Int->Res)->((qW->Int->Res))->Res:=λv rec q=>j1h v.1 v.2.1 v.2.2 (λa k_ i=>rec (a,k_,i)) q
noncomputable def j4B (n:Nat) (a:List qV) (k_:Int) (i:Int) (k0:qW->Int->Res):Res:=Z1g (j3C) n (a,k_,i) (k0)
noncomputable def j6m:Z1e Unit:=λσ k=>rdN σ 35<|rd1 σ 0 y3 .O λa=>rdI σ 1 λk_=>rdI σ 5 λi=>j4B Z1d a k_ i (λ(a1:List qV) (k_1:Int)=>k (.exit 0) (mkS 35 35 [(0,v1 y3 a1 .O),(1,vI k_1)] []))
theorem j97 {W0:Base} {M:Nat->Prop} (hnp:W0.np<=1):Z15 Tryz.prog W0 M (cAt 26 (bo Tryz.f51)) j6m:=j08 follows j00 (Za7 j06 Zat) hnp [] oN [0,1,5] [] ([],[]) [(0,[0,1],[])] ([],[]) λσ k _ h=>rN h λhn h=>rV h λa h0 h=>rV h λk_ h1 h=>rV h λi h5 h=>⟨_,ZaN (m:=35) hn (sC h0 (sC h1 (sC h5 sN))) bN,.trans (Z9v (λv:qW×Int×Int=>(mkS 35 35 [(0,v1 y3 v.1 .O),(1,vI v.2.1),(5,vI v.2.2)] [])) (j3C) (λ(k:Z84 Unit)=>(((λ(a1:List qV) (k_1:Int)=>k (.exit 0) (mkS 35 35 [(0,v1 y3 a1 .O),(1,vI k_1)] []))):(qW->Int->Res))) (λv rec k=>by kernel_rfl) Z1d (a,k_,i) k) h⟩
noncomputable def j2f (a:List qV) (k_:Int) (k0:Int->qW->Res):Res:=
 j4B Z1d a k_ 0 λ(a1:List qV) (k_1:Int)=>
  k0 k_1 a1
noncomputable def j5f:Sig Unit:=⟨[.inout y3 false,.borrow tI false],[false],λvals ext k=>ao vals y3 [.O] λa vals=>av vals tI λk_ vals=>nl vals<|nl ext<|j2f a k_ (λ(r0:Int) (i0:List qV)=>k [wI r0] [w1 y3 i0 .O] [])⟩
theorem j9I:Z18 Tryz.prog 51 j5f:=j02 (np:=1) follows j00 (Za7 j06 Zat) [j6m] (oI 26 0 (j97) oN) false Tryz.func51 λ_ _ k _ h=>aO h λ_ _ _ _ h=>aV h λ_ _ _ _ _ h=>nL h λ_ h=>nL h λ_ h=>by subst_vars;exact .trans (by kernel_rfl) h
noncomputable def j1f (a:List qV) (k_:Int) (i:Int) (rec:Int->Int->Res) (k0:Int->Res) (k1:Unit->Res):Res:=
 bif decide (i<(nI (List.length a))) then
  bif inb i (List.length a) then
   bif ((nth (0,0,eS) a i).1 != k_) then
    k1 ()
   else
    bif inb i (List.length a) then
     bif ((nth (0,0,eS) a i).2.1 != (Z9L (k_+1))) then
      k1 ()
     else
      bif inb i (List.length a) then
       j05 (Z9L ((Z9L (k_+1))+1)) λ(r:qB)=>
        bif sNe (nth (0,0,eS) a i).2.2 r then
         k1 ()
        else
         rec (Z9L ((Z9L ((Z9L (k_+1))+1))+1)) (Z9L (i+1))
      else none
    else none
  else none
 else
  k0 k_
noncomputable def j3A (a:List qV):(Int×Int)->(Int×Int->Res)->((Int->Res)×(Unit->Res))->Res:=λv rec q=>j1f a v.1 v.2 (λk_ i=>rec (k_,i)) q.1 q.2
noncomputable def j4y (a:List qV) (n:Nat) (k_:Int) (i:Int) (k0:Int->Res) (k1:Unit->Res):Res:=Z1g (j3A a) n (k_,i) (k0,k1)
noncomputable def j6j:Z1e Unit:=λσ k=>rdN σ 41<|rd1 σ 0 y3 .S λa=>rdI σ 1 λk_=>rdI σ 5 λi=>j4y a Z1d k_ i (λ(k_1:Int)=>k (.exit 0) (mkS 41 41 [(1,vI k_1)] [])) (λ(_:Unit)=>k .ret (mkS 41 41 [(4,vI (-1))] []))
theorem j91 {W0:Base} {M:Nat->Prop} (hnp:W0.np<=0):Z15 Tryz.prog W0 M (cAt 26 (bo Tryz.f118)) j6j:=j08 follows j00 (Za7 j06 Zat) hnp [] oN [0,1,5] [] ([],[]) [(0,[1],[])] ([4],[]) λσ k _ h=>rN h λhn h=>rV h λa h0 h=>rV h λk_ h1 h=>rV h λi h5 h=>⟨_,ZaN (m:=41) hn (sC h0 (sC h1 (sC h5 sN))) bN,.trans (Z9v (λv:Int×Int=>(mkS 41 41 [(0,v1 y3 a .S),(1,vI v.1),(5,vI v.2)] [])) (j3A a) (λ(k:Z84 Unit)=>(((λ(k_1:Int)=>k (.exit 0) (mkS 41 41 [(1,vI k_1)] [])),(λ(_:Unit)=>k .ret (mkS 41 41 [(4,vI (-1))] []))):(Int->Res)×(Unit->Res))) (λv rec k=>by kernel_rfl) Z1d (k_,i) k) h⟩
noncomputable def j2e (a:List qV) (k_:Int) (k0:Int->Res):Res:=
 j4y a Z1d k_ 0
  (λ(k_1:Int)=>
   k0 k_1)
  (λ(_:Unit)=>
   k0 (-1))
noncomputable def j5d:Sig Unit:=⟨[.look y3 false,.look tI false],[false],λvals ext k=>av vals y3 λa vals=>av vals tI λk_ vals=>nl vals<|nl ext<|j2e a k_ (λ(r0:Int)=>k [wI r0] [] [])⟩
theorem j9G:Z18 Tryz.prog 118 j5d:=j02 (np:=0) follows j00 (Za7 j06 Zat) [j6j] (oI 26 0 (j91) oN) false Tryz.func118 λ_ _ k _ h=>aV h λ_ _ _ _ _ h=>aV h λ_ _ _ _ _ h=>nL h λ_ h=>nL h λ_ h=>by subst_vars;exact .trans (by kernel_rfl) h
end Go.PI.G
namespace Go.PI.G
open Go Go.PI Go.Proofs
open Go.Code (pl pr)
noncomputable def j54 (a:List qV) (left:Int) (k0:Int->Res):Res:=
 j3k a left λ(r:Int)=>
  bif decide (r<0) then
   k0 (-1)
  else
   k0 r
noncomputable def j8S:Sig Unit:=⟨[.look y3 true,.look tI false],[false],λvals ext k=>av vals y3 λa vals=>av vals tI λleft vals=>nl vals<|nl ext<|j54 a left (λ(r0:Int)=>k [wI r0] [] [])⟩
theorem jbl:Z18 Tryz.prog 184 j8S:=j02 (np:=0) follows j00 (Za7 j87 Zat) [] oN false Tryz.func184 λ_ _ k _ h=>aV h λ_ _ _ _ _ h=>aV h λ_ _ _ _ _ h=>nL h λ_ h=>nL h λ_ h=>by subst_vars;exact .trans (by kernel_rfl) h
noncomputable def j57 (a:List qV) (k0:qW->Res):Res:=
 j3m a λ(r:List qV)=>
  k0 r
noncomputable def j8U:Sig Unit:=⟨[.borrow y3 true],[true],λvals ext k=>av vals y3 λa vals=>nl vals<|nl ext<|j57 a (λ(r0:List qV)=>k [⟨y3,true,r0,[.O]⟩] [] [])⟩
theorem jbo:Z18 Tryz.prog 193 j8U:=j02 (np:=0) follows j00 (Za7 j89 Zat) [] oN false Tryz.func193 λ_ _ k _ h=>aV h λ_ _ _ _ _ h=>nL h λ_ h=>nL h λ_ h=>by subst_vars;exact .trans (by kernel_rfl) h
noncomputable def j50 (a:List qV) (b:List qV) (k0:Bool->Res):Res:=
 j3i a b λ(r:Bool)=>
  bif !r then
   k0 false
  else
   k0 true
noncomputable def j8Q:Sig Unit:=⟨[.look y3 true,.look y3 true],[false],λvals ext k=>av vals y3 λa vals=>av vals y3 λb vals=>nl vals<|nl ext<|j50 a b (λ(r0:Bool)=>k [wB r0] [] [])⟩
theorem jbi:Z18 Tryz.prog 50 j8Q:=j02 (np:=0) follows j00 (Za7 j85 Zat) [] oN false Tryz.func50 λ_ _ k _ h=>aV h λ_ _ _ _ _ h=>aV h λ_ _ _ _ _ h=>nL h λ_ h=>nL h λ_ h=>by subst_vars;exact .trans (by kernel_rfl) h
end Go.PI.G
namespace Go.PI.G
open Go Go.PI Go.Proofs
open Go.Code (pl pr)
noncomputable def j3j (a:qS) (left:Int) (k0:Int->Res):Res:=
 bif decide ((Z9L (left-(nI (ByteArray.size a.2.1))))<0) then
  k0 (-1)
 else
  j3k a.2.2.1 (Z9L (left-(nI (ByteArray.size a.2.1)))) λ(r:Int)=>
   bif decide (r<0) then
    k0 (-1)
   else
    j54 a.2.2.2.1 r λ(r1:Int)=>
     bif decide (r1<0) then
      k0 (-1)
     else
      j3X a.2.2.2.2 r1 λ(r2:Int)=>
       bif decide (r2<0) then
        k0 (-1)
       else
        k0 r2
noncomputable def j8f:Sig Unit:=⟨[.look y17 true,.look tI false],[false],λvals ext k=>av vals y17 λa vals=>av vals tI λleft vals=>nl vals<|nl ext<|j3j a left (λ(r0:Int)=>k [wI r0] [] [])⟩
theorem jaR:Z18 Tryz.prog 132 j8f:=j02 (np:=0) follows j00 (Za7 j87 (Za7 jbl (Za7 jbj Zat))) [] oN false Tryz.func132 λ_ _ k _ h=>aV h λ_ _ _ _ _ h=>aV h λ_ _ _ _ _ h=>nL h λ_ h=>nL h λ_ h=>by subst_vars;exact .trans (by delta j3j j8g j8S j8R;refine gz j3k λ_ e=> ?_;rewrite [<-e];refine gz j54 λ_ e=> ?_;rewrite [<-e];refine gz j3X λ_ e=> ?_;rewrite [<-e];kernel_rfl) h
noncomputable def j3l (a:qS) (k0:qS->Res):Res:=
 j3m a.2.2.1 λ(r:List qV)=>
  j57 a.2.2.2.1 λ(r1:List qV)=>
   j3Z a.2.2.2.2 λ(r2:qG)=>
    k0 (a.1,a.2.1,r,r1,r2)
noncomputable def j8i:Sig Unit:=⟨[.borrow y17 true],[true],λvals ext k=>av vals y17 λa vals=>nl vals<|nl ext<|j3l a (λ(r0:qS)=>k [⟨y17,true,r0,[.O,.O,.O,.O]⟩] [] [])⟩
theorem jaT:Z18 Tryz.prog 137 j8i:=j02 (np:=0) follows j00 (Za7 j89 (Za7 jbo (Za7 jbm Zat))) [] oN false Tryz.func137 λ_ _ k _ h=>aV h λ_ _ _ _ _ h=>nL h λ_ h=>nL h λ_ h=>by subst_vars;exact .trans (by delta j3l j8j j8U j8T;refine gz j3m λ_ e=> ?_;rewrite [<-e];refine gz j57 λ_ e=> ?_;rewrite [<-e];refine gz j3Z λ_ e=> ?_;rewrite [<-e];kernel_rfl) h
noncomputable def j3h (a:qS) (b:qS) (k0:Bool->Res):Res:=
 bif (a.1 != b.1) then
  k0 false
 else
  bif sNe a.2.1 b.2.1 then
   k0 false
  else
   j3i a.2.2.1 b.2.2.1 λ(r:Bool)=>
    bif !r then
     k0 false
    else
     j50 a.2.2.2.1 b.2.2.2.1 λ(r1:Bool)=>
      bif !r1 then
       k0 false
      else
       j3T a.2.2.2.2 b.2.2.2.2 λ(r2:Bool)=>
        bif !r2 then
         k0 false
        else
         k0 true
noncomputable def j8c:Sig Unit:=⟨[.look y17 true,.look y17 true],[false],λvals ext k=>av vals y17 λa vals=>av vals y17 λb vals=>nl vals<|nl ext<|j3h a b (λ(r0:Bool)=>k [wB r0] [] [])⟩
theorem jaP:Z18 Tryz.prog 140 j8c:=j02 (np:=0) follows j00 (Za7 j85 (Za7 jbi (Za7 jbg Zat))) [] oN false Tryz.func140 λ_ _ k _ h=>aV h λ_ _ _ _ _ h=>aV h λ_ _ _ _ _ h=>nL h λ_ h=>nL h λ_ h=>by subst_vars;exact .trans (by delta j3h j8d j8Q j8P;refine gz j3i λ_ e=> ?_;rewrite [<-e];refine gz j50 λ_ e=> ?_;rewrite [<-e];refine gz j3T λ_ e=> ?_;rewrite [<-e];kernel_rfl) h
end Go.PI.G
namespace Go.PI.G
open Go Go.PI Go.Proofs
open Go.Code (pl pr)
noncomputable def j4l (a:qS×qL×qL) (left:Int) (k0:Int->Res):Res:=
 j3j a.1 left λ(r:Int)=>
  bif decide (r<0) then
   k0 (-1)
  else
   j0x a.2.1 r λ(r1:Int)=>
    bif decide (r1<0) then
     k0 (-1)
    else
     j0x a.2.2 r1 λ(r2:Int)=>
      bif decide (r2<0) then
       k0 (-1)
      else
       k0 r2
noncomputable def jb2:Sig Unit:=⟨[.look y19 true,.look tI false],[false],λvals ext k=>av vals y19 λa vals=>av vals tI λleft vals=>nl vals<|nl ext<|j4l a left (λ(r0:Int)=>k [wI r0] [] [])⟩
theorem j86:Z18 Tryz.prog 153 jb2:=j02 (np:=0) follows j00 (Za7 j4u (Za7 jaR Zat)) [] oN false Tryz.func153 λ_ _ k _ h=>aV h λ_ _ _ _ _ h=>aV h λ_ _ _ _ _ h=>nL h λ_ h=>nL h λ_ h=>by subst_vars;exact .trans (by delta j4l j8f j4H;refine gz j3j λ_ e=> ?_;rewrite [<-e];refine gz j0x λ_ e=> ?_;rewrite [<-e];kernel_rfl) h
noncomputable def j4n (a:qS×qL×qL) (k0:(qS×qL×qL)->Res):Res:=
 j3l a.1 λ(r:qS)=>
  j0y a.2.1 λ(r1:qL)=>
   j0y a.2.2 λ(r2:qL)=>
    k0 (r,r1,r2)
noncomputable def jb3:Sig Unit:=⟨[.borrow y19 true],[true],λvals ext k=>av vals y19 λa vals=>nl vals<|nl ext<|j4n a (λ(r0:qS×qL×qL)=>k [⟨y19,true,r0,[.O,.O,.O,.O,.O,.O]⟩] [] [])⟩
theorem j88:Z18 Tryz.prog 159 jb3:=j02 (np:=0) follows j00 (Za7 j4v (Za7 jaT Zat)) [] oN false Tryz.func159 λ_ _ k _ h=>aV h λ_ _ _ _ _ h=>nL h λ_ h=>nL h λ_ h=>by subst_vars;exact .trans (by delta j4n j8i j4I;refine gz j3l λ_ e=> ?_;rewrite [<-e];refine gz j0y λ_ e=> ?_;rewrite [<-e];kernel_rfl) h
noncomputable def j4j (a:qS×qL×qL) (b:qS×qL×qL) (k0:Bool->Res):Res:=
 j3h a.1 b.1 λ(r:Bool)=>
  bif !r then
   k0 false
  else
   j0w a.2.1 b.2.1 λ(r1:Bool)=>
    bif !r1 then
     k0 false
    else
     j0w a.2.2 b.2.2 λ(r2:Bool)=>
      bif !r2 then
       k0 false
      else
       k0 true
noncomputable def jb1:Sig Unit:=⟨[.look y19 true,.look y19 true],[false],λvals ext k=>av vals y19 λa vals=>av vals y19 λb vals=>nl vals<|nl ext<|j4j a b (λ(r0:Bool)=>k [wB r0] [] [])⟩
theorem j84:Z18 Tryz.prog 167 jb1:=j02 (np:=0) follows j00 (Za7 j4t (Za7 jaP Zat)) [] oN false Tryz.func167 λ_ _ k _ h=>aV h λ_ _ _ _ _ h=>aV h λ_ _ _ _ _ h=>nL h λ_ h=>nL h λ_ h=>by subst_vars;exact .trans (by delta j4j j8c j4E;refine gz j3h λ_ e=> ?_;rewrite [<-e];refine gz j0w λ_ e=> ?_;rewrite [<-e];kernel_rfl) h
end Go.PI.G
