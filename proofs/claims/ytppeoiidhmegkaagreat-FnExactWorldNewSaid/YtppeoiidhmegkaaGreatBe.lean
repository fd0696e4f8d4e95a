/-
  Program's code interpreted over typed values; printed texts; plain laws. No conditions.
-/
import Derived.Test.YtppeoiidhmegkaaGreatPc
import Derived.Test.YtppeoiidhmegkaaGreatBa
import Derived.Test.YtppeoiidhmegkaaGreatBc
import Derived.Test.YtppeoiidhmegkaaGreatBd
import Derived.Test.YtppeoiidhmegkaaGreatBb
set_option linter.unusedVariables false
set_option maxRecDepth 100000
namespace Go.PI.G
open Go Go.PI Go.Proofs
open Go.Code (pl pr)
noncomputable def j27 (a:List qP) (b:List qP) (i:Int) (rec:Int->Res) (k0:Unit->Res) (k1:Unit->Res):Res:=
 bif decide (i<(nI (List.length a))) then
  bif inb i (List.length a) then
   bif inb i (List.length b) then
    j8i (nth (0,0,0,eS,[],[],0,eS,[],[],eS,eS) a i) (nth (0,0,0,eS,[],[],0,eS,[],[],eS,eS) b i) λ(r:Bool)=>
     bif !r then
      k1 ()
     else
      rec (Z8o (i+1))
   else none
  else none
 else
  k0 ()
noncomputable def j8J (a:List qP) (b:List qP):Int->(Int->Res)->((Unit->Res)×(Unit->Res))->Res:=λv rec q=>j27 a b v (λi=>rec (i)) q.1 q.2
noncomputable def j74 (a:List qP) (b:List qP) (n:Nat) (i:Int) (k0:Unit->Res) (k1:Unit->Res):Res:=Z14 (j8J a b) n (i) (k0,k1)
noncomputable def j9A:Z1q Unit:=λσ k=>rdN σ 27<|rd1 σ 0 y27 .S λa=>rd1 σ 1 y27 .S λb=>rdI σ 5 λi=>j74 a b Z12 i (λ(_:Unit)=>k (.exit 0) (mkS 27 27 [] [])) (λ(_:Unit)=>k .ret (mkS 27 27 [(4,vB false)] []))
theorem jd9 {W0:Base} {M:Nat->Prop} (hnp:W0.np<=0):Z22 Tryz.prog W0 M (cAt 58 (bo Tryz.f59)) j9A:=j0a follows j01 (Z8K jbb Z94) hnp [] oN [0,1,5] [] ([],[]) [(0,[],[])] ([4],[]) λσ k _ h=>rN h λhn h=>rV h λa h0 h=>rV h λb h1 h=>rV h λi h5 h=>⟨_,Z9m (m:=27) hn (sC h0 (sC h1 (sC h5 sN))) bN,.trans (Z88 (λv:Int=>(mkS 27 27 [(0,v1 y27 a .S),(1,v1 y27 b .S),(5,vI v)] [])) (j8J a b) (λ(k:Z6O Unit)=>(((λ(_:Unit)=>k (.exit 0) (mkS 27 27 [] [])),(λ(_:Unit)=>k .ret (mkS 27 27 [(4,vB false)] []))):(Unit->Res)×(Unit->Res))) (λv rec k=>by kernel_rfl) Z12 (i) k) h⟩
noncomputable def j59 (a:List qP) (b:List qP) (k0:Bool->Res):Res:=
 bif ((nI (List.length a)) != (nI (List.length b))) then
  k0 false
 else
  j74 a b Z12 0
   (λ(_:Unit)=>
    k0 true)
   (λ(_:Unit)=>
    k0 false)
noncomputable def jaY:Sig Unit:=⟨[.look y27 false,.look y27 false],[false],λvals ext k=>av vals y27 λa vals=>av vals y27 λb vals=>nl vals<|nl ext<|j59 a b (λ(r0:Bool)=>k [wB r0] [] [])⟩
theorem jel:Z1p Tryz.prog 59 jaY:=j02 (np:=0) follows j01 (Z8K jbb Z94) [j9A] (oI 58 0 (jd9) oN) false Tryz.func59 λ_ _ k _ h=>aV h λ_ _ _ _ _ h=>aV h λ_ _ _ _ _ h=>nL h λ_ h=>nL h λ_ h=>by subst_vars;exact .trans (by kernel_rfl) h
theorem j0D:Fns Tryz.prog [(90,j2P),(175,j0t),(176,j6y),(177,j3Q)]:=(Z8K j3T (Z8K j0f (Z8K j64 (Z8K j9p Z94))))
noncomputable def j2e (a:List qP) (k_:Int) (i:Int) (k0:(List qP)->Res):Res:=
 bif inb i (List.length a) then
  k0 (upd a i ((nth (0,0,0,eS,[],[],0,eS,[],[],eS,eS) a i).1,(nth (0,0,0,eS,[],[],0,eS,[],[],eS,eS) a i).2.1,k_,(nth (0,0,0,eS,[],[],0,eS,[],[],eS,eS) a i).2.2.2))
 else none
noncomputable def j0q:Z1q Unit:=λσ k=>rdN σ 118<|rd1 σ 0 y27 .O λa=>rdI σ 1 λk_=>rdI σ 5 λi=>j2e a k_ i (λ(a1:List qP)=>k .normal (mkS 118 118 [(0,v1 y27 a1 .O),(1,vI k_),(5,vI i)] []))
theorem jbZ {W0:Base} {M:Nat->Prop} (hnp:W0.np<=1):Z22 Tryz.prog W0 M (cAt 13470 (bo Tryz.f152)) j0q:=j3O follows j01 j0D hnp [] oN ([0,1,5],[]) [] ([],[]) λσ k _ h=>rN h λhn h=>rV h λa h0 h=>rV h λk_ h1 h=>rV h λi h5 h=>⟨_,Z9m (m:=118) hn (sC h0 (sC h1 (sC h5 sN))) bN,.trans (by kernel_rfl) h⟩
noncomputable def j2f (a:List qP) (k_:Int) (i:Int) (k0:(List qP)->Int->Res):Res:=
 bif inb i (List.length a) then
  j1C (nth (0,0,0,eS,[],[],0,eS,[],[],eS,eS) a i).2.2.2.2.1 k_ λ(r:Int) (a1:List qV)=>
   k0 (upd a i ((nth (0,0,0,eS,[],[],0,eS,[],[],eS,eS) a i).1,(nth (0,0,0,eS,[],[],0,eS,[],[],eS,eS) a i).2.1,(nth (0,0,0,eS,[],[],0,eS,[],[],eS,eS) a i).2.2.1,(nth (0,0,0,eS,[],[],0,eS,[],[],eS,eS) a i).2.2.2.1,a1,(nth (0,0,0,eS,[],[],0,eS,[],[],eS,eS) a i).2.2.2.2.2)) r
 else none
noncomputable def j0v:Z1q Unit:=λσ k=>rdN σ 118<|rd1 σ 0 y27 .O λa=>rdI σ 1 λk_=>rdI σ 5 λi=>j2f a k_ i (λ(a2:List qP) (k_1:Int)=>k .normal (mkS 118 118 [(0,v1 y27 a2 .O),(1,vI k_1),(5,vI i)] []))
theorem jc0 {W0:Base} {M:Nat->Prop} (hnp:W0.np<=1):Z22 Tryz.prog W0 M (cAt 215550 (bo Tryz.f152)) j0v:=j3O follows j01 j0D hnp [j0q] oN ([0,1,5],[]) [] ([],[]) λσ k _ h=>rN h λhn h=>rV h λa h0 h=>rV h λk_ h1 h=>rV h λi h5 h=>⟨_,Z9m (m:=118) hn (sC h0 (sC h1 (sC h5 sN))) bN,.trans (by kernel_rfl) h⟩
noncomputable def j2g (a:List qP) (k_:Int) (i:Int) (k0:(List qP)->Res):Res:=
 bif inb i (List.length a) then
  k0 (upd a i ((nth (0,0,0,eS,[],[],0,eS,[],[],eS,eS) a i).1,(nth (0,0,0,eS,[],[],0,eS,[],[],eS,eS) a i).2.1,(nth (0,0,0,eS,[],[],0,eS,[],[],eS,eS) a i).2.2.1,(nth (0,0,0,eS,[],[],0,eS,[],[],eS,eS) a i).2.2.2.1,(nth (0,0,0,eS,[],[],0,eS,[],[],eS,eS) a i).2.2.2.2.1,(nth (0,0,0,eS,[],[],0,eS,[],[],eS,eS) a i).2.2.2.2.2.1,k_,(nth (0,0,0,eS,[],[],0,eS,[],[],eS,eS) a i).2.2.2.2.2.2.2))
 else none
noncomputable def j0B:Z1q Unit:=λσ k=>rdN σ 118<|rd1 σ 0 y27 .O λa=>rdI σ 1 λk_=>rdI σ 5 λi=>j2g a k_ i (λ(a1:List qP)=>k .normal (mkS 118 118 [(0,v1 y27 a1 .O),(1,vI k_),(5,vI i)] []))
theorem jc1 {W0:Base} {M:Nat->Prop} (hnp:W0.np<=1):Z22 Tryz.prog W0 M (cAt 862206 (bo Tryz.f152)) j0B:=j3O follows j01 j0D hnp [j0q,j0v] oN ([0,1,5],[]) [] ([],[]) λσ k _ h=>rN h λhn h=>rV h λa h0 h=>rV h λk_ h1 h=>rV h λi h5 h=>⟨_,Z9m (m:=118) hn (sC h0 (sC h1 (sC h5 sN))) bN,.trans (by kernel_rfl) h⟩
noncomputable def j2h (a:List qP) (k_:Int) (i:Int) (k0:(List qP)->Int->Res):Res:=
 bif inb i (List.length a) then
  j2y (nth (0,0,0,eS,[],[],0,eS,[],[],eS,eS) a i).2.2.2.2.2.2.2.2.1 k_ λ(r:Int) (a1:List qC)=>
   k0 (upd a i ((nth (0,0,0,eS,[],[],0,eS,[],[],eS,eS) a i).1,(nth (0,0,0,eS,[],[],0,eS,[],[],eS,eS) a i).2.1,(nth (0,0,0,eS,[],[],0,eS,[],[],eS,eS) a i).2.2.1,(nth (0,0,0,eS,[],[],0,eS,[],[],eS,eS) a i).2.2.2.1,(nth (0,0,0,eS,[],[],0,eS,[],[],eS,eS) a i).2.2.2.2.1,(nth (0,0,0,eS,[],[],0,eS,[],[],eS,eS) a i).2.2.2.2.2.1,(nth (0,0,0,eS,[],[],0,eS,[],[],eS,eS) a i).2.2.2.2.2.2.1,(nth (0,0,0,eS,[],[],0,eS,[],[],eS,eS) a i).2.2.2.2.2.2.2.1,a1,(nth (0,0,0,eS,[],[],0,eS,[],[],eS,eS) a i).2.2.2.2.2.2.2.2.2)) r
 else none
noncomputable def j0L:Z1q Unit:=λσ k=>rdN σ 118<|rd1 σ 0 y27 .O λa=>rdI σ 1 λk_=>rdI σ 5 λi=>j2h a k_ i (λ(a2:List qP) (k_1:Int)=>k .normal (mkS 118 118 [(0,v1 y27 a2 .O),(1,vI k_1),(5,vI i)] []))
theorem jc2 {W0:Base} {M:Nat->Prop} (hnp:W0.np<=1):Z22 Tryz.prog W0 M (cAt 13795326 (bo Tryz.f152)) j0L:=j3O follows j01 j0D hnp [j0q,j0v,j0B] oN ([0,1,5],[]) [] ([],[]) λσ k _ h=>rN h λhn h=>rV h λa h0 h=>rV h λk_ h1 h=>rV h λi h5 h=>⟨_,Z9m (m:=118) hn (sC h0 (sC h1 (sC h5 sN))) bN,.trans (by kernel_rfl) h⟩
noncomputable def j2i (a:List qP) (k_:Int) (i:Int) (k0:(List qP)->Int->Res):Res:=
 bif inb i (List.length a) then
  j0S (nth (0,0,0,eS,[],[],0,eS,[],[],eS,eS) a i).2.2.2.2.2.2.2.2.2.1 k_ λ(r:Int) (a1:qL)=>
   k0 (upd a i ((nth (0,0,0,eS,[],[],0,eS,[],[],eS,eS) a i).1,(nth (0,0,0,eS,[],[],0,eS,[],[],eS,eS) a i).2.1,(nth (0,0,0,eS,[],[],0,eS,[],[],eS,eS) a i).2.2.1,(nth (0,0,0,eS,[],[],0,eS,[],[],eS,eS) a i).2.2.2.1,(nth (0,0,0,eS,[],[],0,eS,[],[],eS,eS) a i).2.2.2.2.1,(nth (0,0,0,eS,[],[],0,eS,[],[],eS,eS) a i).2.2.2.2.2.1,(nth (0,0,0,eS,[],[],0,eS,[],[],eS,eS) a i).2.2.2.2.2.2.1,(nth (0,0,0,eS,[],[],0,eS,[],[],eS,eS) a i).2.2.2.2.2.2.2.1,(nth (0,0,0,eS,[],[],0,eS,[],[],eS,eS) a i).2.2.2.2.2.2.2.2.1,a1,(nth (0,0,0,eS,[],[],0,eS,[],[],eS,eS) a i).2.2.2.2.2.2.2.2.2.2)) r
 else none
noncomputable def j17:Z1q Unit:=λσ k=>rdN σ 118<|rd1 σ 0 y27 .O λa=>rdI σ 1 λk_=>rdI σ 5 λi=>j2i a k_ i (λ(a2:List qP) (k_1:Int)=>k .normal (mkS 118 118 [(0,v1 y27 a2 .O),(1,vI k_1),(5,vI i)] []))
theorem jc3 {W0:Base} {M:Nat->Prop} (hnp:W0.np<=1):Z22 Tryz.prog W0 M (cAt 27590654 (bo Tryz.f152)) j17:=j3O follows j01 j0D hnp [j0q,j0v,j0B,j0L] oN ([0,1,5],[]) [] ([],[]) λσ k _ h=>rN h λhn h=>rV h λa h0 h=>rV h λk_ h1 h=>rV h λi h5 h=>⟨_,Z9m (m:=118) hn (sC h0 (sC h1 (sC h5 sN))) bN,.trans (by kernel_rfl) h⟩
noncomputable def j2j (a:List qP) (k_:Int) (i:Int) (k0:(List qP)->Res):Res:=
 j0b k_ λ(r:qB)=>
  bif inb i (List.length a) then
   k0 (upd a i ((nth (0,0,0,eS,[],[],0,eS,[],[],eS,eS) a i).1,(nth (0,0,0,eS,[],[],0,eS,[],[],eS,eS) a i).2.1,(nth (0,0,0,eS,[],[],0,eS,[],[],eS,eS) a i).2.2.1,(nth (0,0,0,eS,[],[],0,eS,[],[],eS,eS) a i).2.2.2.1,(nth (0,0,0,eS,[],[],0,eS,[],[],eS,eS) a i).2.2.2.2.1,(nth (0,0,0,eS,[],[],0,eS,[],[],eS,eS) a i).2.2.2.2.2.1,(nth (0,0,0,eS,[],[],0,eS,[],[],eS,eS) a i).2.2.2.2.2.2.1,(nth (0,0,0,eS,[],[],0,eS,[],[],eS,eS) a i).2.2.2.2.2.2.2.1,(nth (0,0,0,eS,[],[],0,eS,[],[],eS,eS) a i).2.2.2.2.2.2.2.2.1,(nth (0,0,0,eS,[],[],0,eS,[],[],eS,eS) a i).2.2.2.2.2.2.2.2.2.1,r,(nth (0,0,0,eS,[],[],0,eS,[],[],eS,eS) a i).2.2.2.2.2.2.2.2.2.2.2))
  else none
noncomputable def j1S:Z1q Unit:=λσ k=>rdN σ 118<|rd1 σ 0 y27 .O λa=>rdI σ 1 λk_=>rdI σ 5 λi=>j2j a k_ i (λ(a1:List qP)=>k .normal (mkS 118 118 [(0,v1 y27 a1 .O),(1,vI k_),(5,vI i)] []))
theorem jc4 {W0:Base} {M:Nat->Prop} (hnp:W0.np<=1):Z22 Tryz.prog W0 M (cAt 55181310 (bo Tryz.f152)) j1S:=j3O follows j01 j0D hnp [j0q,j0v,j0B,j0L,j17] oN ([0,1,5],[]) [] ([],[]) λσ k _ h=>rN h λhn h=>rV h λa h0 h=>rV h λk_ h1 h=>rV h λi h5 h=>⟨_,Z9m (m:=118) hn (sC h0 (sC h1 (sC h5 sN))) bN,.trans (by kernel_rfl) h⟩
noncomputable def j2k (a:List qP) (k_:Int) (i:Int) (k0:(List qP)->Res):Res:=
 j0b k_ λ(r:qB)=>
  bif inb i (List.length a) then
   k0 (upd a i ((nth (0,0,0,eS,[],[],0,eS,[],[],eS,eS) a i).1,(nth (0,0,0,eS,[],[],0,eS,[],[],eS,eS) a i).2.1,(nth (0,0,0,eS,[],[],0,eS,[],[],eS,eS) a i).2.2.1,(nth (0,0,0,eS,[],[],0,eS,[],[],eS,eS) a i).2.2.2.1,(nth (0,0,0,eS,[],[],0,eS,[],[],eS,eS) a i).2.2.2.2.1,(nth (0,0,0,eS,[],[],0,eS,[],[],eS,eS) a i).2.2.2.2.2.1,(nth (0,0,0,eS,[],[],0,eS,[],[],eS,eS) a i).2.2.2.2.2.2.1,(nth (0,0,0,eS,[],[],0,eS,[],[],eS,eS) a i).2.2.2.2.2.2.2.1,(nth (0,0,0,eS,[],[],0,eS,[],[],eS,eS) a i).2.2.2.2.2.2.2.2.1,(nth (0,0,0,eS,[],[],0,eS,[],[],eS,eS) a i).2.2.2.2.2.2.2.2.2.1,(nth (0,0,0,eS,[],[],0,eS,[],[],eS,eS) a i).2.2.2.2.2.2.2.2.2.2.1,r))
  else none
noncomputable def j35:Z1q Unit:=λσ k=>rdN σ 118<|rd1 σ 0 y27 .O λa=>rdI σ 1 λk_=>rdI σ 5 λi=>j2k a k_ i (λ(a1:List qP)=>k .normal (mkS 118 118 [(0,v1 y27 a1 .O),(1,vI k_),(5,vI i)] []))
theorem jc5 {W0:Base} {M:Nat->Prop} (hnp:W0.np<=1):Z22 Tryz.prog W0 M (cAt 220725246 (bo Tryz.f152)) j35:=j3O follows j01 j0D hnp [j0q,j0v,j0B,j0L,j17,j1S] oN ([0,1,5],[]) [] ([],[]) λσ k _ h=>rN h λhn h=>rV h λa h0 h=>rV h λk_ h1 h=>rV h λi h5 h=>⟨_,Z9m (m:=118) hn (sC h0 (sC h1 (sC h5 sN))) bN,.trans (by kernel_rfl) h⟩
noncomputable def j0Y (a:List qP) (k_:Int) (i:Int) (rec:(List qP)->Int->Int->Res) (k0:(List qP)->Int->Res):Res:=
 bif decide (i<(nI (List.length a))) then
  bif inb i (List.length a) then
   bif inb i (List.length (upd a i (k_,(nth (0,0,0,eS,[],[],0,eS,[],[],eS,eS) a i).2))) then
    j2e (upd (upd a i (k_,(nth (0,0,0,eS,[],[],0,eS,[],[],eS,eS) a i).2)) i ((nth (0,0,0,eS,[],[],0,eS,[],[],eS,eS) (upd a i (k_,(nth (0,0,0,eS,[],[],0,eS,[],[],eS,eS) a i).2)) i).1,Z8o (k_+1),(nth (0,0,0,eS,[],[],0,eS,[],[],eS,eS) (upd a i (k_,(nth (0,0,0,eS,[],[],0,eS,[],[],eS,eS) a i).2)) i).2.2)) (Z8o ((Z8o (k_+1))+1)) i λ(a1:List qP)=>
     j0b (Z8o ((Z8o ((Z8o (k_+1))+1))+1)) λ(r:qB)=>
      bif inb i (List.length a1) then
       j2f (upd a1 i ((nth (0,0,0,eS,[],[],0,eS,[],[],eS,eS) a1 i).1,(nth (0,0,0,eS,[],[],0,eS,[],[],eS,eS) a1 i).2.1,(nth (0,0,0,eS,[],[],0,eS,[],[],eS,eS) a1 i).2.2.1,r,(nth (0,0,0,eS,[],[],0,eS,[],[],eS,eS) a1 i).2.2.2.2)) (Z8o ((Z8o ((Z8o ((Z8o (k_+1))+1))+1))+1)) i λ(a2:List qP) (k_1:Int)=>
        bif inb i (List.length a2) then
         j1C (nth (0,0,0,eS,[],[],0,eS,[],[],eS,eS) a2 i).2.2.2.2.2.1 k_1 λ(r1:Int) (a3:List qV)=>
          j2g (upd a2 i ((nth (0,0,0,eS,[],[],0,eS,[],[],eS,eS) a2 i).1,(nth (0,0,0,eS,[],[],0,eS,[],[],eS,eS) a2 i).2.1,(nth (0,0,0,eS,[],[],0,eS,[],[],eS,eS) a2 i).2.2.1,(nth (0,0,0,eS,[],[],0,eS,[],[],eS,eS) a2 i).2.2.2.1,(nth (0,0,0,eS,[],[],0,eS,[],[],eS,eS) a2 i).2.2.2.2.1,a3,(nth (0,0,0,eS,[],[],0,eS,[],[],eS,eS) a2 i).2.2.2.2.2.2)) r1 i λ(a4:List qP)=>
           j0b (Z8o (r1+1)) λ(r2:qB)=>
            bif inb i (List.length a4) then
             j2h (upd a4 i ((nth (0,0,0,eS,[],[],0,eS,[],[],eS,eS) a4 i).1,(nth (0,0,0,eS,[],[],0,eS,[],[],eS,eS) a4 i).2.1,(nth (0,0,0,eS,[],[],0,eS,[],[],eS,eS) a4 i).2.2.1,(nth (0,0,0,eS,[],[],0,eS,[],[],eS,eS) a4 i).2.2.2.1,(nth (0,0,0,eS,[],[],0,eS,[],[],eS,eS) a4 i).2.2.2.2.1,(nth (0,0,0,eS,[],[],0,eS,[],[],eS,eS) a4 i).2.2.2.2.2.1,(nth (0,0,0,eS,[],[],0,eS,[],[],eS,eS) a4 i).2.2.2.2.2.2.1,r2,(nth (0,0,0,eS,[],[],0,eS,[],[],eS,eS) a4 i).2.2.2.2.2.2.2.2)) (Z8o ((Z8o (r1+1))+1)) i λ(a5:List qP) (k_2:Int)=>
              j2i a5 k_2 i λ(a6:List qP) (k_3:Int)=>
               j2j a6 k_3 i λ(a7:List qP)=>
                j2k a7 (Z8o (k_3+1)) i λ(a8:List qP)=>
                 rec a8 (Z8o ((Z8o (k_3+1))+1)) (Z8o (i+1))
            else none
        else none
      else none
   else none
  else none
 else
  k0 a k_
noncomputable def j2M:((List qP)×Int×Int)->((List qP)×Int×Int->Res)->(((List qP)->Int->Res))->Res:=λv rec q=>j0Y v.1 v.2.1 v.2.2 (λa k_ i=>rec (a,k_,i)) q
noncomputable def j5K (n:Nat) (a:List qP) (k_:Int) (i:Int) (k0:(List qP)->Int->Res):Res:=Z14 (j2M) n (a,k_,i) (k0)
noncomputable def j89:Z1q Unit:=λσ k=>rdN σ 118<|rd1 σ 0 y27 .O λa=>rdI σ 1 λk_=>rdI σ 5 λi=>j5K Z12 a k_ i (λ(a9:List qP) (k_4:Int)=>k (.exit 0) (mkS 118 118 [(0,v1 y27 a9 .O),(1,vI k_4)] []))
theorem jbY {W0:Base} {M:Nat->Prop} (hnp:W0.np<=1):Z22 Tryz.prog W0 M (cAt 26 (bo Tryz.f152)) j89:=j0a follows j01 j0D hnp [j0q,j0v,j0B,j0L,j17,j1S,j35] (oI 414 0 (jbZ) (oI 6654 1 (jc0) (oI 26622 2 (jc1) (oI 425982 3 (jc2) (oI 851966 4 (jc3) (oI 1703934 5 (jc4) (oI 6815742 6 (jc5) oN))))))) [0,1,5] [] ([],[]) [(0,[0,1],[])] ([],[]) λσ k _ h=>rN h λhn h=>rV h λa h0 h=>rV h λk_ h1 h=>rV h λi h5 h=>⟨_,Z9m (m:=118) hn (sC h0 (sC h1 (sC h5 sN))) bN,.trans (Z88 (λv:(List qP)×Int×Int=>(mkS 118 118 [(0,v1 y27 v.1 .O),(1,vI v.2.1),(5,vI v.2.2)] [])) (j2M) (λ(k:Z6O Unit)=>(((λ(a9:List qP) (k_4:Int)=>k (.exit 0) (mkS 118 118 [(0,v1 y27 a9 .O),(1,vI k_4)] []))):((List qP)->Int->Res))) (λv rec k=>by delta j2M j0Y j0q j0t j0v j6y j0B j0L j17 j1S j35;refine gz j2e λ_ e=> ?_;rewrite [<-e];refine gz j0b λ_ e=> ?_;rewrite [<-e];refine gz j2f λ_ e=> ?_;rewrite [<-e];refine gz j1C λ_ e=> ?_;rewrite [<-e];refine gz j2g λ_ e=> ?_;rewrite [<-e];refine gz j2h λ_ e=> ?_;rewrite [<-e];refine gz j2i λ_ e=> ?_;rewrite [<-e];refine gz j2j λ_ e=> ?_;rewrite [<-e];refine gz j2k λ_ e=> ?_;rewrite [<-e];kernel_rfl) Z12 (a,k_,i) k) h⟩
noncomputable def j3u (a:List qP) (k_:Int) (k0:Int->(List qP)->Res):Res:=
 j5K Z12 a k_ 0 λ(a1:List qP) (k_1:Int)=>
  k0 k_1 a1
noncomputable def j9x:Sig Unit:=⟨[.inout y27 false,.borrow tI false],[false],λvals ext k=>ao vals y27 [.O] λa vals=>av vals tI λk_ vals=>nl vals<|nl ext<|j3u a k_ (λ(r0:Int) (i0:List qP)=>k [wI r0] [w1 y27 i0 .O] [])⟩
theorem jcV:Z1p Tryz.prog 152 j9x:=j02 (np:=1) follows j01 j0D [j0q,j0v,j0B,j0L,j17,j1S,j35,j89] (oI 26 7 (jbY) oN) false Tryz.func152 λ_ _ k _ h=>aO h λ_ _ _ _ h=>aV h λ_ _ _ _ _ h=>nL h λ_ h=>nL h λ_ h=>by subst_vars;exact .trans (by kernel_rfl) h
theorem j9l:Fns Tryz.prog [(175,j0t),(178,j6x),(179,j2O),(180,j1z)]:=(Z8K j0f (Z8K j63 (Z8K j9n (Z8K j3S Z94))))
noncomputable def j0V (a:List qP) (k_:Int) (i:Int) (rec:Int->Int->Res) (k0:Int->Res) (k1:Unit->Res):Res:=
 bif decide (i<(nI (List.length a))) then
  bif inb i (List.length a) then
   bif ((nth (0,0,0,eS,[],[],0,eS,[],[],eS,eS) a i).1 != k_) then
    k1 ()
   else
    bif inb i (List.length a) then
     bif ((nth (0,0,0,eS,[],[],0,eS,[],[],eS,eS) a i).2.1 != (Z8o (k_+1))) then
      k1 ()
     else
      bif inb i (List.length a) then
       bif ((nth (0,0,0,eS,[],[],0,eS,[],[],eS,eS) a i).2.2.1 != (Z8o ((Z8o (k_+1))+1))) then
        k1 ()
       else
        bif inb i (List.length a) then
         j0b (Z8o ((Z8o ((Z8o (k_+1))+1))+1)) λ(r:qB)=>
          bif sNe (nth (0,0,0,eS,[],[],0,eS,[],[],eS,eS) a i).2.2.2.1 r then
           k1 ()
          else
           bif inb i (List.length a) then
            j1B (nth (0,0,0,eS,[],[],0,eS,[],[],eS,eS) a i).2.2.2.2.1 (Z8o ((Z8o ((Z8o ((Z8o (k_+1))+1))+1))+1)) λ(r1:Int)=>
             bif decide (r1<0) then
              k1 ()
             else
              bif inb i (List.length a) then
               j1B (nth (0,0,0,eS,[],[],0,eS,[],[],eS,eS) a i).2.2.2.2.2.1 r1 λ(r2:Int)=>
                bif decide (r2<0) then
                 k1 ()
                else
                 bif inb i (List.length a) then
                  bif ((nth (0,0,0,eS,[],[],0,eS,[],[],eS,eS) a i).2.2.2.2.2.2.1 != r2) then
                   k1 ()
                  else
                   bif inb i (List.length a) then
                    j0b (Z8o (r2+1)) λ(r3:qB)=>
                     bif sNe (nth (0,0,0,eS,[],[],0,eS,[],[],eS,eS) a i).2.2.2.2.2.2.2.1 r3 then
                      k1 ()
                     else
                      bif inb i (List.length a) then
                       j1A (nth (0,0,0,eS,[],[],0,eS,[],[],eS,eS) a i).2.2.2.2.2.2.2.2.1 (Z8o ((Z8o (r2+1))+1)) λ(r4:Int)=>
                        bif decide (r4<0) then
                         k1 ()
                        else
                         bif inb i (List.length a) then
                          j0F (nth (0,0,0,eS,[],[],0,eS,[],[],eS,eS) a i).2.2.2.2.2.2.2.2.2.1 r4 λ(r5:Int)=>
                           bif decide (r5<0) then
                            k1 ()
                           else
                            bif inb i (List.length a) then
                             j0b r5 λ(r6:qB)=>
                              bif sNe (nth (0,0,0,eS,[],[],0,eS,[],[],eS,eS) a i).2.2.2.2.2.2.2.2.2.2.1 r6 then
                               k1 ()
                              else
                               bif inb i (List.length a) then
                                j0b (Z8o (r5+1)) λ(r7:qB)=>
                                 bif sNe (nth (0,0,0,eS,[],[],0,eS,[],[],eS,eS) a i).2.2.2.2.2.2.2.2.2.2.2 r7 then
                                  k1 ()
                                 else
                                  rec (Z8o ((Z8o (r5+1))+1)) (Z8o (i+1))
                               else none
                            else none
                         else none
                      else none
                   else none
                 else none
              else none
           else none
        else none
      else none
    else none
  else none
 else
  k0 k_
noncomputable def j2K (a:List qP):(Int×Int)->(Int×Int->Res)->((Int->Res)×(Unit->Res))->Res:=λv rec q=>j0V a v.1 v.2 (λk_ i=>rec (k_,i)) q.1 q.2
noncomputable def j5F (a:List qP) (n:Nat) (k_:Int) (i:Int) (k0:Int->Res) (k1:Unit->Res):Res:=Z14 (j2K a) n (k_,i) (k0,k1)
noncomputable def j84:Z1q Unit:=λσ k=>rdN σ 142<|rd1 σ 0 y27 .S λa=>rdI σ 1 λk_=>rdI σ 5 λi=>j5F a Z12 k_ i (λ(k_1:Int)=>k (.exit 0) (mkS 142 142 [(1,vI k_1)] [])) (λ(_:Unit)=>k .ret (mkS 142 142 [(4,vI (-1))] []))
theorem jbQ {W0:Base} {M:Nat->Prop} (hnp:W0.np<=0):Z22 Tryz.prog W0 M (cAt 26 (bo Tryz.f156)) j84:=j0a follows j01 j9l hnp [] oN [0,1,5] [] ([],[]) [(0,[1],[])] ([4],[]) λσ k _ h=>rN h λhn h=>rV h λa h0 h=>rV h λk_ h1 h=>rV h λi h5 h=>⟨_,Z9m (m:=142) hn (sC h0 (sC h1 (sC h5 sN))) bN,.trans (Z88 (λv:Int×Int=>(mkS 142 142 [(0,v1 y27 a .S),(1,vI v.1),(5,vI v.2)] [])) (j2K a) (λ(k:Z6O Unit)=>(((λ(k_1:Int)=>k (.exit 0) (mkS 142 142 [(1,vI k_1)] [])),(λ(_:Unit)=>k .ret (mkS 142 142 [(4,vI (-1))] []))):(Int->Res)×(Unit->Res))) (λv rec k=>by delta j2K j0V j0t j6x j2O j1z;refine gz j0b λ_ e=> ?_;rewrite [<-e];refine gz j1B λ_ e=> ?_;rewrite [<-e];refine gz j1A λ_ e=> ?_;rewrite [<-e];refine gz j0F λ_ e=> ?_;rewrite [<-e];kernel_rfl) Z12 (k_,i) k) h⟩
noncomputable def j3s (a:List qP) (k_:Int) (k0:Int->Res):Res:=
 j5F a Z12 k_ 0
  (λ(k_1:Int)=>
   k0 k_1)
  (λ(_:Unit)=>
   k0 (-1))
noncomputable def j9v:Sig Unit:=⟨[.look y27 false,.look tI false],[false],λvals ext k=>av vals y27 λa vals=>av vals tI λk_ vals=>nl vals<|nl ext<|j3s a k_ (λ(r0:Int)=>k [wI r0] [] [])⟩
theorem jcT:Z1p Tryz.prog 156 j9v:=j02 (np:=0) follows j01 j9l [j84] (oI 26 0 (jbQ) oN) false Tryz.func156 λ_ _ k _ h=>aV h λ_ _ _ _ _ h=>aV h λ_ _ _ _ _ h=>nL h λ_ h=>nL h λ_ h=>by subst_vars;exact .trans (by kernel_rfl) h
end Go.PI.G
namespace Go.PI.G
open Go Go.PI Go.Proofs
open Go.Code (pl pr)
noncomputable def j11 (a:(List qP)×qL×(qD×Int×Int)×(qD×Int×Int)×List (List Int)×List Int) (b:(List qP)×qL×(qD×Int×Int)×(qD×Int×Int)×List (List Int)×List Int) (k0:Bool->Res):Res:=
 j59 a.1 b.1 λ(r:Bool)=>
  bif !r then
   k0 false
  else
   j3j a.2.1 b.2.1 λ(r1:Bool)=>
    bif !r1 then
     k0 false
    else
     j4B a.2.2.1 b.2.2.1 λ(r2:Bool)=>
      bif !r2 then
       k0 false
      else
       j4B a.2.2.2.1 b.2.2.2.1 λ(r3:Bool)=>
        bif !r3 then
         k0 false
        else
         j6m a.2.2.2.2.1 b.2.2.2.2.1 λ(r4:Bool)=>
          bif !r4 then
           k0 false
          else
           j58 a.2.2.2.2.2 b.2.2.2.2.2 λ(r5:Bool)=>
            bif !r5 then
             k0 false
            else
             k0 true
noncomputable def j4K:Sig Unit:=⟨[.look y36 true,.look y36 true],[false],λvals ext k=>av vals y36 λa vals=>av vals y36 λb vals=>nl vals<|nl ext<|j11 a b (λ(r0:Bool)=>k [wB r0] [] [])⟩
theorem jdC:Z1p Tryz.prog 50 j4K:=j02 (np:=0) follows j01 (Z8K jba (Z8K jel (Z8K jf7 (Z8K jf8 (Z8K jek Z94))))) [] oN false Tryz.func50 λ_ _ k _ h=>aV h λ_ _ _ _ _ h=>aV h λ_ _ _ _ _ h=>nL h λ_ h=>nL h λ_ h=>by subst_vars;exact .trans (by delta j11 jaY j6w jby jbz jaX;refine gz j59 λ_ e=> ?_;rewrite [<-e];refine gz j3j λ_ e=> ?_;rewrite [<-e];refine gz j4B λ_ e=> ?_;rewrite [<-e];refine gz j6m λ_ e=> ?_;rewrite [<-e];refine gz j58 λ_ e=> ?_;rewrite [<-e];kernel_rfl) h
noncomputable def j20 (a:(List qP)×qL×(qD×Int×Int)×(qD×Int×Int)×List (List Int)×List Int) (k_:Int) (k0:Int->((List qP)×qL×(qD×Int×Int)×(qD×Int×Int)×List (List Int)×List Int)->Res):Res:=
 j3u a.1 k_ λ(r:Int) (a1:List qP)=>
  j2d a.2.1 r λ(r1:Int) (a2:qL)=>
   j3c a.2.2.1 r1 λ(r2:Int) (a3:qD×Int×Int)=>
    j3c a.2.2.2.1 r2 λ(r3:Int) (a4:qD×Int×Int)=>
     j4b a.2.2.2.2.1 r3 λ(r4:Int) (a5:List (List Int))=>
      j3t a.2.2.2.2.2 r4 λ(r5:Int) (a6:List Int)=>
       k0 r5 (a1,a2,a3,a4,a5,a6)
noncomputable def j5U:Sig Unit:=⟨[.inout y36 true,.borrow tI false],[false],λvals ext k=>ao vals y36 [.O,.O,.O,.O,.O,.O,.O,.O] λa vals=>av vals tI λk_ vals=>nl vals<|nl ext<|j20 a k_ (λ(r0:Int) (i0:(List qP)×qL×(qD×Int×Int)×(qD×Int×Int)×List (List Int)×List Int)=>k [wI r0] [⟨y36,true,i0,[.O,.O,.O,.O,.O,.O,.O,.O]⟩] [])⟩
theorem jct:Z1p Tryz.prog 53 j5U:=j02 (np:=1) follows j01 (Z8K ja0 (Z8K jcV (Z8K jdI (Z8K jdJ (Z8K jcU Z94))))) [] oN false Tryz.func53 λ_ _ k _ h=>aO h λ_ _ _ _ h=>aV h λ_ _ _ _ _ h=>nL h λ_ h=>nL h λ_ h=>by subst_vars;exact .trans (by delta j20 j9x j4L jah jai j9w;refine gz j3u λ_ e=> ?_;rewrite [<-e];refine gz j2d λ_ e=> ?_;rewrite [<-e];refine gz j3c λ_ e=> ?_;rewrite [<-e];refine gz j4b λ_ e=> ?_;rewrite [<-e];refine gz j3t λ_ e=> ?_;rewrite [<-e];kernel_rfl) h
noncomputable def j1i (a:(List qP)×qL×(qD×Int×Int)×(qD×Int×Int)×List (List Int)×List Int) (k_:Int) (k0:Int->Res):Res:=
 j3s a.1 k_ λ(r:Int)=>
  bif decide (r<0) then
   k0 (-1)
  else
   j45 a.2.1 r λ(r1:Int)=>
    bif decide (r1<0) then
     k0 (-1)
    else
     j39 a.2.2.1 r1 λ(r2:Int)=>
      bif decide (r2<0) then
       k0 (-1)
      else
       j39 a.2.2.2.1 r2 λ(r3:Int)=>
        bif decide (r3<0) then
         k0 (-1)
        else
         j44 a.2.2.2.2.1 r3 λ(r4:Int)=>
          bif decide (r4<0) then
           k0 (-1)
          else
           j3r a.2.2.2.2.2 r4 λ(r5:Int)=>
            bif decide (r5<0) then
             k0 (-1)
            else
             k0 r5
noncomputable def j5T:Sig Unit:=⟨[.look y36 true,.look tI false],[false],λvals ext k=>av vals y36 λa vals=>av vals tI λk_ vals=>nl vals<|nl ext<|j1i a k_ (λ(r0:Int)=>k [wI r0] [] [])⟩
theorem jcq:Z1p Tryz.prog 54 j5T:=j02 (np:=0) follows j01 (Z8K jcT (Z8K jdG (Z8K jdE (Z8K jdF (Z8K jcS Z94))))) [] oN false Tryz.func54 λ_ _ k _ h=>aV h λ_ _ _ _ _ h=>aV h λ_ _ _ _ _ h=>nL h λ_ h=>nL h λ_ h=>by subst_vars;exact .trans (by delta j1i j9v jaf jad jae j9u;refine gz j3s λ_ e=> ?_;rewrite [<-e];refine gz j45 λ_ e=> ?_;rewrite [<-e];refine gz j39 λ_ e=> ?_;rewrite [<-e];refine gz j44 λ_ e=> ?_;rewrite [<-e];refine gz j3r λ_ e=> ?_;rewrite [<-e];kernel_rfl) h
end Go.PI.G
namespace Go.PI.G
open Go Go.PI Go.Proofs
open Go.Code (pl pr)
theorem j1k:Fns Tryz.prog [(19,j94),(22,j4k),(25,j6w),(26,j4L),(46,j9R),(47,j6A),(48,j5e),(49,j3P),(50,j4K),(51,j9Q),(52,j7M),(53,j5U),(54,j5T)]:=(Z8K jfa (Z8K jfc (Z8K jba (Z8K ja0 (Z8K jfS (Z8K jcY (Z8K jfT (Z8K jcP (Z8K jdC (Z8K jcg (Z8K jaO (Z8K jct (Z8K jcq Z94)))))))))))))
noncomputable def j0x (aP:qL) (aD:qF×List qR) (k0:Bool->((List qP)×qL×(qD×Int×Int)×(qD×Int×Int)×List (List Int)×List Int)->Res):Res:=
 Z6T
  (j0Q aP λ(r:qL)=>
   Z6T
    (j0G aD λ(r1:qF×List qR)=>
     Z6T
      (j0R r r1 λ(r2:(List qP)×qL×(qD×Int×Int)×(qD×Int×Int)×List (List Int)×List Int) (r3:Bool)=>
       Z6T
        (k0 r3 r2)
        (Z6T
         (k0 r3 r2)
         (k0 r3 r2)))
      (j0R r r1 λ(r4:(List qP)×qL×(qD×Int×Int)×(qD×Int×Int)×List (List Int)×List Int) (r5:Bool)=>
       Z6T
        (k0 r5 r4)
        (k0 r5 r4)))
    (j0G aD λ(r6:qF×List qR)=>
     j0R r r6 λ(r7:(List qP)×qL×(qD×Int×Int)×(qD×Int×Int)×List (List Int)×List Int) (r8:Bool)=>
      Z6T
       (k0 r8 r7)
       (k0 r8 r7)))
  (j0Q aP λ(r9:qL)=>
   j0G aD λ(r10:qF×List qR)=>
    j0R r9 r10 λ(r11:(List qP)×qL×(qD×Int×Int)×(qD×Int×Int)×List (List Int)×List Int) (r12:Bool)=>
     Z6T
      (k0 r12 r11)
      (k0 r12 r11))
noncomputable def j0H:Z1q Unit:=λσ k=>rdN σ 119<|rdT σ 2 (pB 2)<|rdT σ 3 (pB 3)<|rdB σ 2 y1 [.S] λa aP=>rdB σ 3 y26 [.S,.S] λa1 aD=>j0x aP aD (λ(w1:Bool) (w0:(List qP)×qL×(qD×Int×Int)×(qD×Int×Int)×List (List Int)×List Int)=>k .normal (mkS 119 119 [(2,pB 2),(3,pB 3),(6,pB 6),(7,vB w1)] [(2,⟨y1,a,aP,[.S]⟩),(3,⟨y26,a1,aD,[.S,.S]⟩),(6,⟨y36,false,w0,[.O,.O,.O,.O,.O,.O,.O,.O]⟩)]))
theorem j8Q {W0:Base} {M:Nat->Prop} (hnp:W0.np<=0):Z22 Tryz.prog W0 M (cAt 254 (bo Tryz.f8)) j0H:=j3O follows j01 j1k hnp [] oN ([2,3,6,7],[2,3,6]) [] ([],[]) λσ k _ h=>rN h λhn h=>rT h λh2 h=>rT h λh3 h=>rB h λa aP hb2 h=>rB h λa1 aD hb3 h=>⟨_,Z9m (m:=119) hn (sC h2 (sC h3 sN)) (bC hb2 (bC hb3 bN)),.trans (by delta j0x j4k j5e j6A;refine gz j0Q λ_ e=> ?_;rewrite [<-e];refine gz j0G λ_ e=> ?_;rewrite [<-e];refine gz j0R λ_ e=> ?_;rewrite [<-e];kernel_rfl) h⟩
noncomputable def j0y (aP:qL) (aD:qF×List qR) (k0:Bool->((List qP)×qL×(qD×Int×Int)×(qD×Int×Int)×List (List Int)×List Int)->Res):Res:=
 Z6T
  (j0Q aP λ(r:qL)=>
   Z6T
    (j0G aD λ(r1:qF×List qR)=>
     Z6T
      (j0z r r1 λ(r2:(List qP)×qL×(qD×Int×Int)×(qD×Int×Int)×List (List Int)×List Int) (r3:Bool)=>
       Z6T
        (k0 r3 r2)
        (Z6T
         (k0 r3 r2)
         (k0 r3 r2)))
      (j0z r r1 λ(r4:(List qP)×qL×(qD×Int×Int)×(qD×Int×Int)×List (List Int)×List Int) (r5:Bool)=>
       Z6T
        (k0 r5 r4)
        (k0 r5 r4)))
    (j0G aD λ(r6:qF×List qR)=>
     j0z r r6 λ(r7:(List qP)×qL×(qD×Int×Int)×(qD×Int×Int)×List (List Int)×List Int) (r8:Bool)=>
      Z6T
       (k0 r8 r7)
       (k0 r8 r7)))
  (j0Q aP λ(r9:qL)=>
   j0G aD λ(r10:qF×List qR)=>
    j0z r9 r10 λ(r11:(List qP)×qL×(qD×Int×Int)×(qD×Int×Int)×List (List Int)×List Int) (r12:Bool)=>
     Z6T
      (k0 r12 r11)
      (k0 r12 r11))
noncomputable def j13:Z1q Unit:=λσ k=>rdN σ 119<|rdT σ 2 (pB 2)<|rdT σ 3 (pB 3)<|rdT σ 6 (pB 6)<|rdO σ 7 λw1=>rdT σ 10 (pB 10)<|rdI σ 13 λm=>rdB σ 2 y1 [.S] λa aP=>rdB σ 3 y26 [.S,.S] λa1 aD=>rdB σ 6 y36 [.O,.O,.O,.O,.O,.O,.O,.O] λa2 w0=>rdB σ 10 y36 [.O,.O,.O,.O,.O,.O,.O,.O] λa3 g0=>j0y aP aD (λ(h1:Bool) (h0:(List qP)×qL×(qD×Int×Int)×(qD×Int×Int)×List (List Int)×List Int)=>k .normal (mkS 119 119 [(6,pB 6),(7,vB w1),(10,pB 10),(13,vI m),(15,pB 15),(16,vB h1)] [(6,⟨y36,a2,w0,[.O,.O,.O,.O,.O,.O,.O,.O]⟩),(10,⟨y36,a3,g0,[.O,.O,.O,.O,.O,.O,.O,.O]⟩),(15,⟨y36,false,h0,[.O,.O,.O,.O,.O,.O,.O,.O]⟩)]))
theorem j8R {W0:Base} {M:Nat->Prop} (hnp:W0.np<=0):Z22 Tryz.prog W0 M (cAt 33554430 (bo Tryz.f8)) j13:=j3O follows j01 j1k hnp [j0H] oN ([6,7,10,13,15,16],[6,10,15]) [] ([],[]) λσ k _ h=>rN h λhn h=>rT h λh2 h=>rT h λh3 h=>rT h λh6 h=>rV h λw1 h7 h=>rT h λh10 h=>rV h λm h13 h=>rB h λa aP hb2 h=>rB h λa1 aD hb3 h=>rB h λa2 w0 hb6 h=>rB h λa3 g0 hb10 h=>⟨_,Z9m (m:=119) hn (sC h2 (sC h3 (sC h6 (sC h7 (sC h10 (sC h13 sN)))))) (bC hb2 (bC hb3 (bC hb6 (bC hb10 bN)))),.trans (by delta j0y j4k j5e j3P;refine gz j0Q λ_ e=> ?_;rewrite [<-e];refine gz j0G λ_ e=> ?_;rewrite [<-e];refine gz j0z λ_ e=> ?_;rewrite [<-e];kernel_rfl) h⟩
noncomputable def j0K (w1:Bool) (g1:Bool) (aP:qL) (aD:qF×List qR) (w0:(List qP)×qL×(qD×Int×Int)×(qD×Int×Int)×List (List Int)×List Int) (x0:qL) (x1:qF×List qR) (g0:(List qP)×qL×(qD×Int×Int)×(qD×Int×Int)×List (List Int)×List Int) (k0:Bool->Res):Res:=
 j2d x0 1 λ(r:Int) (a6:qL)=>
  j30 x1 r λ(r1:Int) (a7:qF×List qR)=>
   bif decide (r1<0) then
    k0 false
   else
    j11 g0 w0 λ(r2:Bool)=>
     bif !r2 then
      k0 false
     else
      bif !(g1==w1) then
       k0 false
      else
       j20 g0 1 λ(r3:Int) (a8:(List qP)×qL×(qD×Int×Int)×(qD×Int×Int)×List (List Int)×List Int)=>
        j1i a8 1 λ(r4:Int)=>
         bif decide (r4<0) then
          k0 false
         else
          bif (r4 != r3) then
           k0 false
          else
           j0y aP aD λ(h_:Bool) (h_1:(List qP)×qL×(qD×Int×Int)×(qD×Int×Int)×List (List Int)×List Int)=>
            j11 h_1 w0 λ(r5:Bool)=>
             bif !r5 then
              k0 false
             else
              bif !(h_==w1) then
               k0 false
              else
               j1i a8 1 λ(r6:Int)=>
                bif decide (r6<0) then
                 k0 false
                else
                 bif (r6 != r3) then
                  k0 false
                 else
                  k0 true
noncomputable def j2u:Z1q Unit:=λσ k=>rdN σ 119<|rdT σ 2 (pB 2)<|rdT σ 3 (pB 3)<|rdT σ 6 (pB 6)<|rdO σ 7 λw1=>rdT σ 8 (pB 8)<|rdT σ 9 (pB 9)<|rdT σ 10 (pB 10)<|rdO σ 11 λg1=>rdB σ 2 y1 [.S] λa aP=>rdB σ 3 y26 [.S,.S] λa1 aD=>rdB σ 6 y36 [.O,.O,.O,.O,.O,.O,.O,.O] λa2 w0=>rdB σ 8 y1 [.O] λa3 x0=>rdB σ 9 y26 [.O,.O] λa4 x1=>rdB σ 10 y36 [.O,.O,.O,.O,.O,.O,.O,.O] λa5 g0=>j0K w1 g1 aP aD w0 x0 x1 g0 (λ(t4:Bool)=>k .ret (mkS 119 119 [(4,vB t4)] []))
theorem j8S {W0:Base} {M:Nat->Prop} (hnp:W0.np<=0):Z22 Tryz.prog W0 M (cAt 16383 (bo Tryz.f8)) j2u:=j3O follows j01 j1k hnp [j0H,j13] (oI 4094 1 (j8R) oN) ([],[]) [] ([4],[]) λσ k _ h=>rN h λhn h=>rT h λh2 h=>rT h λh3 h=>rT h λh6 h=>rV h λw1 h7 h=>rT h λh8 h=>rT h λh9 h=>rT h λh10 h=>rV h λg1 h11 h=>rB h λa aP hb2 h=>rB h λa1 aD hb3 h=>rB h λa2 w0 hb6 h=>rB h λa3 x0 hb8 h=>rB h λa4 x1 hb9 h=>rB h λa5 g0 hb10 h=>⟨_,Z9m (m:=119) hn (sC h2 (sC h3 (sC h6 (sC h7 (sC h8 (sC h9 (sC h10 (sC h11 sN)))))))) (bC hb2 (bC hb3 (bC hb6 (bC hb8 (bC hb9 (bC hb10 bN)))))),.trans (by delta j0K j4L j7M j4K j5U j5T j13;refine gz j2d λ_ e=> ?_;rewrite [<-e];refine gz j30 λ_ e=> ?_;rewrite [<-e];refine gz j11 λ_ e=> ?_;rewrite [<-e];refine gz j20 λ_ e=> ?_;rewrite [<-e];refine gz j1i λ_ e=> ?_;rewrite [<-e];refine gz j0y λ_ e=> ?_;rewrite [<-e];kernel_rfl) h⟩
noncomputable def j10 (aP:qL) (aD:qF×List qR) (k0:Bool->Res):Res:=
 j6s aP 1048576 λ(r:Int)=>
  bif decide (r<0) then
   k0 true
  else
   j61 aD r λ(r1:Int)=>
    bif decide (r1<0) then
     k0 true
    else
     j0x aP aD λ(w:Bool) (w1:(List qP)×qL×(qD×Int×Int)×(qD×Int×Int)×List (List Int)×List Int)=>
      j0Q aP λ(r2:qL)=>
       j0G aD λ(r3:qF×List qR)=>
        j0z r2 r3 λ(r4:(List qP)×qL×(qD×Int×Int)×(qD×Int×Int)×List (List Int)×List Int) (r5:Bool)=>
         j11 r4 w1 λ(r6:Bool)=>
          bif !r6 then
           k0 false
          else
           bif !(r5==w) then
            k0 false
           else
            j0Q aP λ(r7:qL)=>
             j3j r2 r7 λ(r8:Bool)=>
              bif !r8 then
               k0 false
              else
               j0G aD λ(r9:qF×List qR)=>
                j3Z r3 r9 λ(r10:Bool)=>
                 bif !r10 then
                  k0 false
                 else
                  j0K w r5 aP aD w1 r2 r3 r4 λ(t:Bool)=>
                   k0 t
noncomputable def j0O:Sig Unit:=⟨[.borrow y1 true,.borrow y26 true],[false],λvals ext k=>av vals y1 λaP vals=>av vals y26 λaD vals=>nl vals<|nl ext<|j10 aP aD (λ(r0:Bool)=>k [wB r0] [] [])⟩
theorem j9L:Z1p Tryz.prog 8 j0O:=j02 (np:=0) follows j01 j1k [j0H,j13,j2u] (oI 254 0 (j8Q) (oI 16383 2 (j8S) oN)) false Tryz.func8 λ_ _ k _ h=>aV h λ_ _ _ _ _ h=>aV h λ_ _ _ _ _ h=>nL h λ_ h=>nL h λ_ h=>by subst_vars;exact .trans (by delta j10 j94 j9R j0H j4k j5e j3P j4K j6w j9Q j2u;refine gz j6s λ_ e=> ?_;rewrite [<-e];refine gz j61 λ_ e=> ?_;rewrite [<-e];refine gz j0x λ_ e=> ?_;rewrite [<-e];refine gz j0Q λ_ e=> ?_;rewrite [<-e];refine gz j0G λ_ e=> ?_;rewrite [<-e];refine gz j0z λ_ e=> ?_;rewrite [<-e];refine gz j11 λ_ e=> ?_;rewrite [<-e];refine gz j3j λ_ e=> ?_;rewrite [<-e];refine gz j3Z λ_ e=> ?_;rewrite [<-e];refine gz j0K λ_ e=> ?_;rewrite [<-e];kernel_rfl) h
end Go.PI.G
namespace Go.PI.G
open Go Go.PI
abbrev V:=Int×Int×ByteArray
theorem j9W (s:ByteArray):(Z1e s).length=s.size:=by unfold Z1e;simp
theorem ja9 (a b:ByteArray):sEq a b=true↔a=b:=by
 unfold sEq
 rw [beq_iff_eq]
 constructor
 ·intro h
  rw [ByteArray.ext_iff]
  have h1:a.toList=a.data.toList:=by rw [ByteArray.toList_eq]
  have h2:b.toList=b.data.toList:=by rw [ByteArray.toList_eq]
  rw [h1,h2] at h
  exact Array.toList_inj.1 h
 ·rintro rfl;rfl
def jfB (n:Int):Bool:=decide (-1099511627775<=n/\n<=1099511627775)
def j1W (v:V):Bool:=
 bif v.1==0 then (v.2.1==0)&&sEq v.2.2 eS
 else bif v.1==1 then ((v.2.1==0)||(v.2.1==1))&&sEq v.2.2 eS
 else bif v.1==2 then jfB v.2.1&&sEq v.2.2 eS
 else bif v.1==3 then (v.2.1==0)&&decide (nI v.2.2.size<=30)
 else false
theorem jgT (x:Int):decide (0<=x/\x<=1)=((x==0)||(x==1)):=by
 by_cases h:0<=x/\x<=1
 ·rw [decide_eq_true h]
  have:x=0\/x=1:=by omega
  rcases this with rfl | rfl<;>rfl
 ·rw [decide_eq_false h]
  have h1:(x==0)=false:=by simp;omega
  have h2:(x==1)=false:=by simp;omega
  rw [h1,h2];rfl
theorem jdu {v:V} (h:j1W v=true):v=(0,0,eS)\/(∃ n,(n=0\/n=1)/\v=(1,n,eS))\/(∃ n,(-1099511627775<=n/\n<=1099511627775)/\v=(2,n,eS))\/∃ s:ByteArray,s.size<=30/\v=(3,0,s):=by
 obtain ⟨t,n,s⟩:=v
 unfold j1W at h
 simp only at h
 cases h0:t==0
 ·cases h1:t==1
  ·cases h2:t==2
   ·cases h3:t==3
    ·rw [h0,h1,h2,h3] at h;cases h
    ·rw [h0,h1,h2,h3] at h
     simp only [cond_false,cond_true,Bool.and_eq_true,beq_iff_eq,decide_eq_true_eq] at h h3
     obtain ⟨rfl,h⟩:=h
     subst h3
     exact .inr (.inr (.inr ⟨s,by unfold nI at h;omega,rfl⟩))
   ·rw [h0,h1,h2] at h
    simp only [cond_false,cond_true,Bool.and_eq_true,beq_iff_eq] at h h2
    obtain ⟨h,hs⟩:=h
    rw [ja9] at hs
    subst hs;subst h2
    exact .inr (.inr (.inl ⟨n,of_decide_eq_true h,rfl⟩))
  ·rw [h0,h1] at h
   simp only [cond_false,cond_true,Bool.and_eq_true,Bool.or_eq_true,beq_iff_eq] at h h1
   obtain ⟨h,hs⟩:=h
   rw [ja9] at hs
   subst hs;subst h1
   exact .inr (.inl ⟨n,h,rfl⟩)
 ·rw [h0] at h
  simp only [cond_true,Bool.and_eq_true,beq_iff_eq] at h h0
  obtain ⟨h,hs⟩:=h
  rw [ja9] at hs
  subst hs;subst h0;subst h
  exact .inl rfl
theorem jh5 {v:V} (h:j1W v=true):v.2.2.size<=30:=by
 rcases jdu h with rfl | ⟨n,_,rfl⟩ | ⟨n,_,rfl⟩ | ⟨s,hs,rfl⟩
 ·show (0:Nat)<=30;omega
 ·show (0:Nat)<=30;omega
 ·show (0:Nat)<=30;omega
 ·exact hs
def be (n:Nat):Nat->List Int
 | 0=>[]
 | s+1=>((n / 256 ^ s % 256:Nat):Int)::be n s
noncomputable def wB (v:V):List Int:=
 bif v.1==1 then [1,v.2.1]
 else bif v.1==2 then 2::(bif decide (v.2.1<0) then 1 else 0)::be v.2.1.natAbs 6
 else bif v.1==3 then 3::nI v.2.2.size::Z1e v.2.2
 else [0]
end Go.PI.G
namespace Go.PI.G
open Go Go.PI Go.Proofs
theorem j7x (x lo hi:Int) (k:Bool->Res):j0w x lo hi k=k (decide (lo<=x/\x<=hi)):=by
 unfold j0w
 by_cases h:x>=lo
 ·rw [decide_eq_true h,cond_true]
  congr 1
  exact decide_eq_decide.2 (by omega)
 ·rw [decide_eq_false h,cond_false]
  congr 1
  exact (decide_eq_false (by omega)).symm
theorem jgR (n:Int) (k:Bool->Res):j9U n k=k (jfB n):=j7x n _ _ k
theorem j6B (v:V) (k:Bool->Res):j12 v k=k (j1W v):=by
 unfold j12 j1W
 cases v.1==0
 ·cases v.1==1
  ·cases v.1==2
   ·cases v.1==3
    ·rfl
    ·cases v.2.1==0<;>rfl
   ·rw [cond_false,cond_false,cond_true,jgR]
    cases jfB v.2.1<;>rfl
  ·cases v.2.1==0
   ·cases v.2.1==1<;>rfl
   ·rfl
 ·cases v.2.1==0<;>rfl
theorem j8g (v:V) (k:Bool->Res):j1l v k=k (j1W v):=by
 unfold j1l j1W
 simp only [j7x,jgT]
 cases v.1==0
 ·cases v.1==1
  ·cases v.1==2
   ·cases v.1==3
    ·rfl
    ·cases v.2.1==0<;>rfl
   ·rw [cond_false,cond_false,cond_true,cond_false,cond_false,cond_true]
    show (bif jfB v.2.1 then _ else _)=_
    cases jfB v.2.1<;>rfl
  ·cases v.2.1==0
   ·cases v.2.1==1<;>rfl
   ·rfl
 ·cases v.2.1==0<;>rfl
end Go.PI.G
namespace Go.PI.G
open Go Go.PI
def msr:(τ:Ty)->El τ->Nat
 | .str,s=>ByteArray.size s
 | .slice e,l=>List.length (α:=El e) l+(List.map (msr e) l).sum
 | .pair a b,x=>msr a x.1+msr b x.2
 | .int _,_=>0
 | .bool,_=>0
 | .unit,_=>0
def wgt:(τ:Ty)->El τ->Nat
 | .str,_=>1
 | .slice e,l=>(List.map (wgt e) l).sum
 | .pair a b,x=>wgt a x.1+wgt b x.2
 | .int _,_=>1
 | .bool,_=>1
 | .unit,_=>0
def j0c:(τ:Ty)->El τ->Nat
 | .slice e,l=>(List.map (wgt e) l).sum
 | .pair a b,x=>j0c a x.1+j0c b x.2
 | .str,_=>0
 | .int _,_=>0
 | .bool,_=>0
 | .unit,_=>0
def j2w:Ty->Nat
 | .slice e=>j2w e
 | .pair a b=>j2w a+j2w b
 | .unit=>0
 | _=>1
theorem jdt {α:Type} (f g:α->Nat) (c:Nat) (h:∀ x,f x<=(g x+1) * c):(l:List α)->(l.map f).sum<=(l.length+(l.map g).sum) * c
 | []=>by simp
 | x::l=>by
  have h1:=h x
  have h2:=jdt f g c h l
  simp only [List.map_cons,List.sum_cons,List.length_cons]
  have:(l.length+1+(g x+(l.map g).sum)) * c=(g x+1) * c+(l.length+(l.map g).sum) * c:=by
   rw [<-Nat.add_mul];congr 1;omega
  omega
theorem jdv:(τ:Ty)->(x:El τ)->wgt τ x<=(msr τ x+1) * j2w τ
 | .str,_=>by simp [wgt,j2w]
 | .int _,_=>by simp [wgt,j2w]
 | .bool,_=>by simp [wgt,j2w]
 | .unit,_=>by simp [wgt]
 | .pair a b,x=>by
  have h1:=jdv a x.1
  have h2:=jdv b x.2
  simp only [wgt,msr,j2w,Nat.mul_add]
  have e1:(msr a x.1+1) * j2w a<=(msr a x.1+msr b x.2+1) * j2w a:=Nat.mul_le_mul_right _ (by omega)
  have e2:(msr b x.2+1) * j2w b<=(msr a x.1+msr b x.2+1) * j2w b:=Nat.mul_le_mul_right _ (by omega)
  omega
 | .slice e,l=>by
  have h1:=jdt (wgt e) (msr e) (j2w e) (jdv e) l
  simp only [wgt,msr,j2w]
  have e1:(List.length (α:=El e) l+(List.map (msr e) l).sum) * j2w e<=(List.length (α:=El e) l+(List.map (msr e) l).sum+1) * j2w e:=Nat.mul_le_mul_right _ (by omega)
  exact Nat.le_trans h1 e1
theorem j5h:(τ:Ty)->(x:El τ)->j0c τ x<=wgt τ x
 | .str,_=>Nat.zero_le _
 | .int _,_=>Nat.zero_le _
 | .bool,_=>Nat.zero_le _
 | .unit,_=>Nat.le_refl _
 | .pair a b,x=>Nat.add_le_add (j5h a x.1) (j5h b x.2)
 | .slice e,l=>Nat.le_refl _
theorem j06 {a b:Ty} {x:El (.pair a b)}:msr a x.1<=msr (.pair a b) x:=Nat.le_add_right _ _
theorem j00 {a b:Ty} {x:El (.pair a b)}:msr b x.2<=msr (.pair a b) x:=Nat.le_add_left _ _
noncomputable def dgt (x:Int):ByteArray:=Z34 [wu8 (Z8o (48+x))]
theorem j8F (x:Int):(dgt x).size=1:=rfl
noncomputable def jaw (n:Nat):ByteArray:=if h:n<10 then dgt n else jaw (n / 10)++dgt ((n % 10:Nat):Int)
termination_by n
decreasing_by omega
noncomputable def mT (k:Int):ByteArray:=(⟨#[109]⟩:ByteArray)++jaw k.toNat
noncomputable def mk:(τ:Ty)->El τ->Int->El τ
 | .str,_,k=>mT k
 | .slice e,l,k=>mkL (wgt e) (mk e) l k
 | .pair a b,x,k=>(mk a x.1 k,mk b x.2 (k+(wgt a x.1:Int)))
 | .int .u8,_,k=>wu8 k
 | .int _,_,k=>k
 | .bool,_,k=>(Int.tmod k 3==0)
 | .unit,x,_=>x
noncomputable def mkT:(τ:Ty)->El τ->Int->El τ
 | .slice e,l,k=>mkL (wgt e) (mk e) l k
 | .pair a b,x,k=>(mkT a x.1 k,mkT b x.2 (k+(j0c a x.1:Int)))
 | .str,x,_=>x
 | .int _,x,_=>x
 | .bool,x,_=>x
 | .unit,x,_=>x
theorem jgS (e:Ty) (l:List (El e)):msr (.slice e) l=l.length+(l.map (msr e)).sum:=rfl
theorem j0d {e:Ty} {l:List (El e)} {n:Nat} (h:msr (.slice e) l<=n):l.length<=n:=by
 have:msr (.slice e) l=l.length+(l.map (msr e)).sum:=rfl
 omega
theorem j0e {e:Ty} {l:List (El e)} {n:Nat} (h:msr (.slice e) l<=n) {x:El e} (hx:x∈l):msr e x<=n:=by
 have h1:msr (.slice e) l=l.length+(l.map (msr e)).sum:=rfl
 have:=Z8l (msr e) l x hx
 omega
theorem jbI {τ:Ty} {x:El τ} (hw:j2w τ<=200) (h:msr τ x<=1048576):wgt τ x<=209715400:=by
 have h1:=jdv τ x
 have h2:(msr τ x+1) * j2w τ<=1048577 * 200:=Nat.mul_le_mul (by omega) hw
 omega
theorem j0i (a b:Ty) (x:El (.pair a b)):wgt (.pair a b) x=wgt a x.1+wgt b x.2:=rfl
theorem j0m (k:IntKind) (x:El (.int k)):wgt (.int k) x=1:=rfl
theorem j0h (x:El .bool):wgt .bool x=1:=rfl
theorem j0n (x:El .str):wgt .str x=1:=rfl
theorem j0l (a b:Ty) (x:El (.pair a b)) (k:Int):mk (.pair a b) x k=(mk a x.1 k,mk b x.2 (k+(wgt a x.1:Int))):=rfl
theorem j0g (e:Ty) (l:El (.slice e)) (k:Int):mk (.slice e) l k=mkL (wgt e) (mk e) l k:=rfl
theorem j0r (x:El (.int .i64)) (k:Int):mk (.int .i64) x k=k:=rfl
theorem j0A (x:El (.int .u8)) (k:Int):mk (.int .u8) x k=wu8 k:=rfl
theorem j0k (x:El .bool) (k:Int):mk .bool x k=(Int.tmod k 3==0):=rfl
theorem j0s (x:El .str) (k:Int):mk .str x k=mT k:=rfl
theorem j0o (a b:Ty) (x:El (.pair a b)) (k:Int):mkT (.pair a b) x k=(mkT a x.1 k,mkT b x.2 (k+(j0c a x.1:Int))):=rfl
theorem j0u (e:Ty) (l:El (.slice e)) (k:Int):mkT (.slice e) l k=mkL (wgt e) (mk e) l k:=rfl
theorem j0M (i:IntKind) (x:El (.int i)) (k:Int):mkT (.int i) x k=x:=rfl
theorem j0C (x:El .bool) (k:Int):mkT .bool x k=x:=rfl
theorem j0N (x:El .str) (k:Int):mkT .str x k=x:=rfl
theorem j05 (a b:Ty) (x:El (.pair a b)):j0c (.pair a b) x=j0c a x.1+j0c b x.2:=rfl
theorem j08 (i:IntKind) (x:El (.int i)):j0c (.int i) x=0:=rfl
theorem j07 (x:El .bool):j0c .bool x=0:=rfl
theorem j09 (x:El .str):j0c .str x=0:=rfl
theorem j3x {α:Type} (z:α) (l:List α) (i:Nat) (v:α) (h:i<l.length):nth z (upd l (i:Int) v) (i:Int)=v:=by
 rw [Z9h,Z9a _ _ _ (by simpa using h)];simp
theorem j3B {α:Type} (l:List α) (i:Int) (u v:α):upd (upd l i u) i v=upd l i v:=by
 unfold upd;simp
theorem j3A {α:Type} (l:List α) (i:Int) (v:α):(upd l i v).length=l.length:=by unfold upd;simp
end Go.PI.G
namespace Go.PI.G
open Go Go.PI
theorem jhh {left:Int} (h:0<=left):szR left 0=left:=by unfold szR;rw [if_pos (by omega)];omega
theorem jao {left:Int} {n rest:Nat} {F:Int->Res} {k:Int->Res} (h0:0<=left) (h1:left<=1048576) (hn:n<=maxLen) (hF:(n:Int)<=left->F (left-n)=k (szR (left-n) rest)) :
  (bif decide (Z8o (left-nI n)<0) then k (-1) else F (Z8o (left-nI n)))=k (szR left (n+rest)):=by
 unfold maxLen at hn
 rw [Z9j (by unfold nI;omega) (by unfold nI;omega)]
 unfold nI
 by_cases h:(n:Int)<=left
 ·rw [Z8I (by omega),cond_false,hF h,Z8W h]
 ·rw [Z8J (by omega),cond_true,Z8X h]
theorem j7w {left:Int} {k:Int->Res} (h0:0<=left):k left=k (szR left 0):=by rw [jhh h0]
theorem j03 {i n:Nat} (h:i<n):inb (i:Int) n=true:=Z9k (by omega) (by omega)
theorem j04 {n:Int} (h: -9223372036854775808<=n/\n<9223372036854775808):Z8o n=n:=Z9j h.1 h.2
theorem jhk (n:Nat):Int.tdiv (n:Int) 10=((n / 10:Nat):Int):=by
 rw [Int.tdiv_eq_ediv_of_nonneg (by omega)];omega
theorem jhl (n:Nat):Int.tmod (n:Int) 10=((n % 10:Nat):Int):=by
 rw [Int.tmod_eq_emod_of_nonneg (by omega)];omega
theorem jdQ {n:Nat} (h:n<10):jaw n=dgt n:=by rw [jaw,dif_pos h]
theorem jgd {n:Nat} (h:¬ n<10):jaw n=jaw (n / 10)++dgt ((n % 10:Nat):Int):=by rw [jaw,dif_neg h]
theorem jec:∀ (d n:Nat),n<10 ^ (d+1)->(jaw n).size<=d+1
 | 0,n,h=>by rw [jdQ (by omega),j8F];exact Nat.le_refl _
 | d+1,n,h=>by
  by_cases h1:n<10
  ·rw [jdQ h1,j8F];omega
  ·rw [jgd h1,ByteArray.size_append,j8F]
   have:n / 10<10 ^ (d+1):=Nat.div_lt_of_lt_mul (by rw [Nat.pow_succ] at h;omega)
   have:=jec d (n / 10) this
   omega
theorem jhw (s:ByteArray):s++eS=s:=by
 show s++ByteArray.empty=s
 simp
end Go.PI.G
namespace Go.PI.G
open Go Go.PI
abbrev C:=ByteArray×Int×Bool×Bool×V
abbrev T:=ByteArray×List C×List ByteArray
abbrev DB:=List T×List (List (List V))
abbrev yV:Ty:= .pair (.int .i64) (.pair (.int .i64) .str)
abbrev yC:Ty:= .pair .str (.pair (.int .i64) (.pair .bool (.pair .bool yV)))
abbrev yT:Ty:= .pair .str (.pair (.slice yC) (.slice .str))
abbrev yDB:Ty:= .pair (.slice yT) (.slice (.slice (.slice yV)))
abbrev zV:V:=(0,0,eS)
abbrev zC:C:=(eS,0,false,false,0,0,eS)
abbrev zT:T:=(eS,[],[])
theorem jcZ {α:Type} (p:α->Bool) (l:List α): -1<=Z8j p l/\Z8j p l<(l.length:Int):=by
 unfold Z8j
 cases h:l.findIdx? p with
 | none=>simp only [];omega
 | some i=>
  have:=(List.findIdx?_eq_some_iff_findIdx_eq.1 h).1
  simp only [];omega
theorem j8f {α:Type} {f:Nat->α->Bool}:(l:List α)->(i:Nat)->Z5X f i l=false->∀ (j:Nat) (h:j<l.length),f (i+j) l[j]=false
 | [],_,_,j,h=>by simp at h
 | x::l,i,h,j,hj=>by
  simp only [Z5X,Bool.or_eq_false_iff] at h
  cases j with
  | zero=>simpa using h.1
  | succ j=>
   have:=j8f l (i+1) h.2 j (by simpa using hj)
   rw [show i+(j+1)=i+1+j by omega]
   simpa using this
noncomputable def j1X (s:ByteArray):Bool:= !((Z1e s).any λb=>decide (b<97)||decide (b>122))&&(decide (1<=s.size)&&decide (s.size<=8))
def veq (a b:V):Bool:=(a.1==b.1)&&((a.2.1==b.2.1)&&sEq a.2.2 b.2.2)
def vlt (a b:V):Bool:=j1W a&&(j1W b&&(bif a.1 != b.1 then decide (a.1<b.1) else bif a.2.1 != b.2.1 then decide (a.2.1<b.2.1) else sLt a.2.2 b.2.2))
def jd3 (v:V):Bool:=(v.1==0)&&((v.2.1==0)&&sEq v.2.2 eS)
noncomputable def j36 (c:C):Bool:=j1X c.1&&(decide (1<=c.2.1/\c.2.1<=3)&&(j1W c.2.2.2.2&&(bif c.2.2.2.1 then (c.2.2.2.2.1==c.2.1)||((c.2.2.2.2.1==0)&& !c.2.2.1) else jd3 c.2.2.2.2)))
def j0p (l:List C) (n:ByteArray):Int:=Z8j (λc=>sEq c.1 n) l
theorem j56 (l:List C) (n:ByteArray): -1<=j0p l n/\j0p l n<(l.length:Int):=jcZ _ _
theorem jh4:j1W (0,0,eS)=true:=by
 show (((0:Int)==0)&&sEq eS eS)=true
 rw [Z8T];rfl
theorem jgw:jd3 (0,0,eS)=true:=by
 show (((0:Int)==0)&&(((0:Int)==0)&&sEq eS eS))=true
 rw [Z8T];rfl
def j2I (l:List C):Int->List ByteArray->Bool
 | _,[]=>true
 | last,k::ks=> !decide (j0p l k<=last)&&((nth zC l (j0p l k)).2.2.1&&j2I l (j0p l k) ks)
noncomputable def j65 (l:List C):Bool:= !Z5X (λi c=> !j36 c||(j0p l c.1 != (i:Int))) 0 l
noncomputable def j1D (t:T):Bool:=(j1X t.1&&(decide (1<=t.2.1.length)&&(decide (t.2.1.length<=8)&&decide (1<=t.2.2.length))))&&(j65 t.2.1&&j2I t.2.1 (-1) t.2.2)
noncomputable def j9N (c:List T):Bool:=decide (c.length<=6)&& !Z5X (λi t=> !j1D t||(decide (0<i)&&sGe (nth zT c ((i:Int)-1)).1 t.1)) 0 c
def jay (c:C) (v:V):Bool:=j1W v&&((v.1==c.2.1)||((v.1==0)&& !c.2.2.1))
def j5R (l:List C) (r:List V):Bool:=decide (r.length=l.length)&& !Z5X (λi c=> !jay c (nth zV r (i:Int))) 0 l
def j6h (t:T) (r:List V):List V:=t.2.2.map λk=>nth zV r (j0p t.2.1 k)
def klt:List V->List V->Bool
 | [],[]=>false
 | [],_::_=>true
 | _::_,[]=>false
 | x::xs,y::ys=>bif veq x y then klt xs ys else vlt x y
noncomputable def j8n (t:T) (l:List (List V)):Bool:=j1D t&&(decide (l.length<=60)&& !Z5X (λi r=> !j5R t.2.1 r||(decide (0<i)&& !klt (j6h t (nth [] l ((i:Int)-1))) (j6h t r))) 0 l)
noncomputable def dbB (d:DB):Bool:=j9N d.1&&(decide (d.2.length=d.1.length)&& !Z5X (λi t=> !j8n t (nth [] d.2 (i:Int))) 0 d.1)
theorem j8o {t:T} (h:j1D t=true):j1X t.1=true/\1<=t.2.1.length/\t.2.1.length<=8/\1<=t.2.2.length/\j65 t.2.1=true/\j2I t.2.1 (-1) t.2.2=true:=by
 unfold j1D at h
 simp only [Bool.and_eq_true,decide_eq_true_eq] at h
 exact ⟨h.1.1,h.1.2.1,h.1.2.2.1,h.1.2.2.2,h.2.1,h.2.2⟩
theorem j6i {l:List C}:(ks:List ByteArray)->(last:Int)-> -1<=last->j2I l last ks=true->∀ k∈ks,0<=j0p l k/\j0p l k<(l.length:Int)
 | [],_,_,_,k,hk=>by cases hk
 | q::ks,last,h0,h,k,hk=>by
  simp only [j2I,Bool.and_eq_true,Bool.not_eq_true',decide_eq_false_iff_not] at h
  have h1:=(jcZ (λc:C=>sEq c.1 q) l).2
  have h2:0<=j0p l q:=by omega
  rcases List.mem_cons.1 hk with rfl | hk
  ·exact ⟨h2,h1⟩
  ·exact j6i ks (j0p l q) (by omega) h.2.2 k hk
theorem jhs {c:C} (h:j36 c=true):1<=c.2.1/\c.2.1<=3:=by
 unfold j36 at h
 simp only [Bool.and_eq_true,decide_eq_true_eq] at h
 exact h.2.1
theorem jeb {l:List C} (h:j65 l=true) (i:Nat) (hi:i<l.length):j36 l[i]=true:=by
 unfold j65 at h
 have:=j8f l 0 (by simpa using h) i hi
 simp only [Bool.or_eq_false_iff,Bool.not_eq_false'] at this
 exact this.1
end Go.PI.G
