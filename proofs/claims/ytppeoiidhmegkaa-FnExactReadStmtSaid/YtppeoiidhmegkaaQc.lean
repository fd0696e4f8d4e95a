/-
  Program's code interpreted over typed values; printed texts; plain laws. No conditions.
-/
import Derived.Test.YtppeoiidhmegkaaPc
import Derived.Test.YtppeoiidhmegkaaQa
import Derived.Test.YtppeoiidhmegkaaQb
set_option linter.unusedVariables false
set_option maxRecDepth 100000
namespace Go.PI.G
open Go Go.PI Go.Proofs
open Go.Code (pl pr)
noncomputable def j1C (a:List Int) (out:List Int) (i:Int) (rec:(List Int)->Int->Res) (k0:(List Int)->Res):Res:=
 bif decide (i<(nI (List.length a))) then
  bif inb i (List.length a) then
   bif inb i (List.length out) then
    rec (upd out i (nth 0 a i)) (Z8o (i+1))
   else none
  else none
 else
  k0 out
noncomputable def j4y (a:List Int):((List Int)×Int)->((List Int)×Int->Res)->(((List Int)->Res))->Res:=λv rec q=>j1C a v.1 v.2 (λout i=>rec (out,i)) q
noncomputable def j7g (a:List Int) (n:Nat) (out:List Int) (i:Int) (k0:(List Int)->Res):Res:=Z14 (j4y a) n (out,i) (k0)
noncomputable def j73:Z1q Unit:=λσ k=>rdN σ 22<|rd1 σ 0 y0 .S λa=>rd1 σ 3 y0 .O λout=>rdI σ 4 λi=>j7g a Z12 out i (λ(out1:List Int)=>k (.exit 0) (mkS 22 22 [(3,v1 y0 out1 .O)] []))
theorem j9p {W0:Base} {M:Nat->Prop} (hnp:W0.np<=0):Z22 Try.prog W0 M (cAt 58 (bo Try.f9)) j73:=j0f follows j01 Z94 hnp [] oN [0,3,4] [] ([],[]) [(0,[3],[])] ([],[]) λσ k _ h=>rN h λhn h=>rV h λa h0 h=>rV h λout h3 h=>rV h λi h4 h=>⟨_,Z9m (m:=22) hn (sC h0 (sC h3 (sC h4 sN))) bN,.trans (Z88 (λv:(List Int)×Int=>(mkS 22 22 [(0,v1 y0 a .S),(3,v1 y0 v.1 .O),(4,vI v.2)] [])) (j4y a) (λ(k:Z6O Unit)=>(((λ(out1:List Int)=>k (.exit 0) (mkS 22 22 [(3,v1 y0 out1 .O)] []))):((List Int)->Res))) (λv rec k=>by kernel_rfl) Z12 (out,i) k) h⟩
noncomputable def j15 (a:List Int) (k0:(List Int)->Res):Res:=
 bif Z8m (nI (List.length a)) (nI (List.length a)) then
  j7g a Z12 (Z7Y (nI (List.length a)) 0) 0 λ(out:List Int)=>
   k0 out
 else none
noncomputable def j4m:Sig Unit:=⟨[.borrow y0 false],[false],λvals ext k=>av vals y0 λa vals=>nl vals<|nl ext<|j15 a (λ(r0:List Int)=>k [w1 y0 r0 .O] [] [])⟩
theorem jaj:Z1p Try.prog 9 j4m:=j05 (np:=0) follows j01 Z94 [j73] (oI 58 0 (j9p) oN) false Try.func9 λ_ _ k _ h=>aV h λ_ _ _ _ _ h=>nL h λ_ h=>nL h λ_ h=>by subst_vars;exact .trans (by kernel_rfl) h
noncomputable def j1B (a:List Int) (b:List Int) (i:Int) (rec:Int->Res) (k0:Unit->Res) (k1:Unit->Res):Res:=
 bif decide (i<(nI (List.length a))) then
  bif inb i (List.length a) then
   bif inb i (List.length b) then
    bif ((nth 0 a i) != (nth 0 b i)) then
     k1 ()
    else
     rec (Z8o (i+1))
   else none
  else none
 else
  k0 ()
noncomputable def j6w (a:List Int) (b:List Int):Int->(Int->Res)->((Unit->Res)×(Unit->Res))->Res:=λv rec q=>j1B a b v (λi=>rec (i)) q.1 q.2
noncomputable def j5r (a:List Int) (b:List Int) (n:Nat) (i:Int) (k0:Unit->Res) (k1:Unit->Res):Res:=Z14 (j6w a b) n (i) (k0,k1)
noncomputable def j72:Z1q Unit:=λσ k=>rdN σ 26<|rd1 σ 0 y0 .S λa=>rd1 σ 1 y0 .S λb=>rdI σ 5 λi=>j5r a b Z12 i (λ(_:Unit)=>k (.exit 0) (mkS 26 26 [] [])) (λ(_:Unit)=>k .ret (mkS 26 26 [(4,vB false)] []))
theorem j9o {W0:Base} {M:Nat->Prop} (hnp:W0.np<=0):Z22 Try.prog W0 M (cAt 58 (bo Try.f12)) j72:=j0f follows j01 Z94 hnp [] oN [0,1,5] [] ([],[]) [(0,[],[])] ([4],[]) λσ k _ h=>rN h λhn h=>rV h λa h0 h=>rV h λb h1 h=>rV h λi h5 h=>⟨_,Z9m (m:=26) hn (sC h0 (sC h1 (sC h5 sN))) bN,.trans (Z88 (λv:Int=>(mkS 26 26 [(0,v1 y0 a .S),(1,v1 y0 b .S),(5,vI v)] [])) (j6w a b) (λ(k:Z6O Unit)=>(((λ(_:Unit)=>k (.exit 0) (mkS 26 26 [] [])),(λ(_:Unit)=>k .ret (mkS 26 26 [(4,vB false)] []))):(Unit->Res)×(Unit->Res))) (λv rec k=>by kernel_rfl) Z12 (i) k) h⟩
noncomputable def j3U (a:List Int) (b:List Int) (k0:Bool->Res):Res:=
 bif ((nI (List.length a)) != (nI (List.length b))) then
  k0 false
 else
  j5r a b Z12 0
   (λ(_:Unit)=>
    k0 true)
   (λ(_:Unit)=>
    k0 false)
noncomputable def j64:Sig Unit:=⟨[.look y0 false,.look y0 false],[false],λvals ext k=>av vals y0 λa vals=>av vals y0 λb vals=>nl vals<|nl ext<|j3U a b (λ(r0:Bool)=>k [wB r0] [] [])⟩
theorem jae:Z1p Try.prog 12 j64:=j05 (np:=0) follows j01 Z94 [j72] (oI 58 0 (j9o) oN) false Try.func12 λ_ _ k _ h=>aV h λ_ _ _ _ _ h=>aV h λ_ _ _ _ _ h=>nL h λ_ h=>nL h λ_ h=>by subst_vars;exact .trans (by kernel_rfl) h
noncomputable def j1j (a:List Int) (k_:Int) (i:Int) (rec:(List Int)->Int->Int->Res) (k0:(List Int)->Int->Res):Res:=
 bif decide (i<(nI (List.length a))) then
  bif inb i (List.length a) then
   rec (upd a i (wu8 k_)) (Z8o (k_+1)) (Z8o (i+1))
  else none
 else
  k0 a k_
noncomputable def j3E:((List Int)×Int×Int)->((List Int)×Int×Int->Res)->(((List Int)->Int->Res))->Res:=λv rec q=>j1j v.1 v.2.1 v.2.2 (λa k_ i=>rec (a,k_,i)) q
noncomputable def j4x (n:Nat) (a:List Int) (k_:Int) (i:Int) (k0:(List Int)->Int->Res):Res:=Z14 (j3E) n (a,k_,i) (k0)
noncomputable def j6m:Z1q Unit:=λσ k=>rdN σ 20<|rd1 σ 0 y0 .O λa=>rdI σ 1 λk_=>rdI σ 5 λi=>j4x Z12 a k_ i (λ(a1:List Int) (k_1:Int)=>k (.exit 0) (mkS 20 20 [(0,v1 y0 a1 .O),(1,vI k_1)] []))
theorem j8w {W0:Base} {M:Nat->Prop} (hnp:W0.np<=1):Z22 Try.prog W0 M (cAt 26 (bo Try.f13)) j6m:=j0f follows j01 Z94 hnp [] oN [0,1,5] [] ([],[]) [(0,[0,1],[])] ([],[]) λσ k _ h=>rN h λhn h=>rV h λa h0 h=>rV h λk_ h1 h=>rV h λi h5 h=>⟨_,Z9m (m:=20) hn (sC h0 (sC h1 (sC h5 sN))) bN,.trans (Z88 (λv:(List Int)×Int×Int=>(mkS 20 20 [(0,v1 y0 v.1 .O),(1,vI v.2.1),(5,vI v.2.2)] [])) (j3E) (λ(k:Z6O Unit)=>(((λ(a1:List Int) (k_1:Int)=>k (.exit 0) (mkS 20 20 [(0,v1 y0 a1 .O),(1,vI k_1)] []))):((List Int)->Int->Res))) (λv rec k=>by kernel_rfl) Z12 (a,k_,i) k) h⟩
noncomputable def j31 (a:List Int) (k_:Int) (k0:Int->(List Int)->Res):Res:=
 j4x Z12 a k_ 0 λ(a1:List Int) (k_1:Int)=>
  k0 k_1 a1
noncomputable def j56:Sig Unit:=⟨[.inout y0 false,.borrow tI false],[false],λvals ext k=>ao vals y0 [.O] λa vals=>av vals tI λk_ vals=>nl vals<|nl ext<|j31 a k_ (λ(r0:Int) (i0:List Int)=>k [wI r0] [w1 y0 i0 .O] [])⟩
theorem j9j:Z1p Try.prog 13 j56:=j05 (np:=1) follows j01 Z94 [j6m] (oI 26 0 (j8w) oN) false Try.func13 λ_ _ k _ h=>aO h λ_ _ _ _ h=>aV h λ_ _ _ _ _ h=>nL h λ_ h=>nL h λ_ h=>by subst_vars;exact .trans (by kernel_rfl) h
end Go.PI.G
namespace Go.PI.G
open Go Go.PI Go.Proofs
open Go.Code (pl pr)
noncomputable def j5t (a:Int×Int×qB) (b:Int×Int×qB) (k0:Bool->Res):Res:=
 bif (a.1 != b.1) then
  k0 false
 else
  bif (a.2.1 != b.2.1) then
   k0 false
  else
   bif sNe a.2.2 b.2.2 then
    k0 false
   else
    k0 true
noncomputable def jbp:Sig Unit:=⟨[.look y2 true,.look y2 true],[false],λvals ext k=>av vals y2 λa vals=>av vals y2 λb vals=>nl vals<|nl ext<|j5t a b (λ(r0:Bool)=>k [wB r0] [] [])⟩
theorem j6L:Z1p Try.prog 116 jbp:=j05 (np:=0) follows j01 Z94 [] oN false Try.func116 λ_ _ k _ h=>aV h λ_ _ _ _ _ h=>aV h λ_ _ _ _ _ h=>nL h λ_ h=>nL h λ_ h=>by subst_vars;exact .trans (by kernel_rfl) h
end Go.PI.G
namespace Go.PI.G
open Go Go.PI Go.Proofs
open Go.Code (pl pr)
noncomputable def j6F (a:qB×Int×Bool×Bool×Int×Int×qB) (b:qB×Int×Bool×Bool×Int×Int×qB) (k0:Bool->Res):Res:=
 bif sNe a.1 b.1 then
  k0 false
 else
  bif (a.2.1 != b.2.1) then
   k0 false
  else
   bif !(a.2.2.1==b.2.2.1) then
    k0 false
   else
    bif !(a.2.2.2.1==b.2.2.2.1) then
     k0 false
    else
     j5t a.2.2.2.2 b.2.2.2.2 λ(r:Bool)=>
      bif !r then
       k0 false
      else
       k0 true
noncomputable def jbo:Sig Unit:=⟨[.look y7 true,.look y7 true],[false],λvals ext k=>av vals y7 λa vals=>av vals y7 λb vals=>nl vals<|nl ext<|j6F a b (λ(r0:Bool)=>k [wB r0] [] [])⟩
theorem j8i:Z1p Try.prog 158 jbo:=j05 (np:=0) follows j01 (Z8K j6L Z94) [] oN false Try.func158 λ_ _ k _ h=>aV h λ_ _ _ _ _ h=>aV h λ_ _ _ _ _ h=>nL h λ_ h=>nL h λ_ h=>by subst_vars;exact .trans (by kernel_rfl) h
end Go.PI.G
namespace Go.PI.G
open Go Go.PI Go.Proofs
open Go.Code (pl pr)
noncomputable def j1r (k_:Int) (out:qB) (rec:Int->qB->Res) (k0:qB->Res):Res:=
 bif decide (k_>0) then
  bif lim ((ByteArray.size (Z34 [wu8 (Z8o (48+(Int.tmod k_ 10)))]))+(ByteArray.size out)) then
   rec (Z8o (Int.tdiv k_ 10)) ((Z34 [wu8 (Z8o (48+(Int.tmod k_ 10)))])++out)
  else none
 else
  k0 out
noncomputable def j2A:(Int×qB)->(Int×qB->Res)->((qB->Res))->Res:=λv rec q=>j1r v.1 v.2 (λk_ out=>rec (k_,out)) q
noncomputable def j52 (n:Nat) (k_:Int) (out:qB) (k0:qB->Res):Res:=Z14 (j2A) n (k_,out) (k0)
noncomputable def j6B:Z1q Unit:=λσ k=>rdN σ 20<|rdI σ 0 λk_=>rdS σ 3 λout=>j52 Z12 k_ out (λ(out1:qB)=>k (.exit 0) (mkS 20 20 [(3,vS out1)] []))
theorem j8X {W0:Base} {M:Nat->Prop} (hnp:W0.np<=0):Z22 Try.prog W0 M (cAt 60 (bo Try.f118)) j6B:=j0f follows j01 Z94 hnp [] oN [0,3] [] ([],[]) [(0,[3],[])] ([],[]) λσ k _ h=>rN h λhn h=>rV h λk_ h0 h=>rV h λout h3 h=>⟨_,Z9m (m:=20) hn (sC h0 (sC h3 sN)) bN,.trans (Z88 (λv:Int×qB=>(mkS 20 20 [(0,vI v.1),(3,vS v.2)] [])) (j2A) (λ(k:Z6O Unit)=>(((λ(out1:qB)=>k (.exit 0) (mkS 20 20 [(3,vS out1)] []))):(qB->Res))) (λv rec k=>by kernel_rfl) Z12 (k_,out) k) h⟩
noncomputable def j0m (k_:Int) (k0:qB->Res):Res:=
 bif decide (k_<=0) then
  k0 jdi
 else
  j52 Z12 k_ eS λ(out:qB)=>
   bif lim (1+(ByteArray.size out)) then
    k0 (z_m++out)
   else none
noncomputable def j5z:Sig Unit:=⟨[.look tI false],[false],λvals ext k=>av vals tI λk_ vals=>nl vals<|nl ext<|j0m k_ (λ(r0:qB)=>k [wS r0] [] [])⟩
theorem j09:Z1p Try.prog 118 j5z:=j05 (np:=0) follows j01 Z94 [j6B] (oI 60 0 (j8X) oN) false Try.func118 λ_ _ k _ h=>aV h λ_ _ _ _ _ h=>nL h λ_ h=>nL h λ_ h=>by subst_vars;exact .trans (by kernel_rfl) h
end Go.PI.G
namespace Go.PI.G
open Go Go.PI Go.Proofs
open Go.Code (pl pr)
noncomputable def j1V (a:List qC) (b:List qC) (i:Int) (rec:Int->Res) (k0:Unit->Res) (k1:Unit->Res):Res:=
 bif decide (i<(nI (List.length a))) then
  bif inb i (List.length a) then
   bif inb i (List.length b) then
    j6F (nth (eS,0,false,false,0,0,eS) a i) (nth (eS,0,false,false,0,0,eS) b i) λ(r:Bool)=>
     bif !r then
      k1 ()
     else
      rec (Z8o (i+1))
   else none
  else none
 else
  k0 ()
noncomputable def j6O (a:List qC) (b:List qC):Int->(Int->Res)->((Unit->Res)×(Unit->Res))->Res:=λv rec q=>j1V a b v (λi=>rec (i)) q.1 q.2
noncomputable def j61 (a:List qC) (b:List qC) (n:Nat) (i:Int) (k0:Unit->Res) (k1:Unit->Res):Res:=Z14 (j6O a b) n (i) (k0,k1)
noncomputable def j7o:Z1q Unit:=λσ k=>rdN σ 27<|rd1 σ 0 y8 .S λa=>rd1 σ 1 y8 .S λb=>rdI σ 5 λi=>j61 a b Z12 i (λ(_:Unit)=>k (.exit 0) (mkS 27 27 [] [])) (λ(_:Unit)=>k .ret (mkS 27 27 [(4,vB false)] []))
theorem j9T {W0:Base} {M:Nat->Prop} (hnp:W0.np<=0):Z22 Try.prog W0 M (cAt 58 (bo Try.f117)) j7o:=j0f follows j01 (Z8K j8i Z94) hnp [] oN [0,1,5] [] ([],[]) [(0,[],[])] ([4],[]) λσ k _ h=>rN h λhn h=>rV h λa h0 h=>rV h λb h1 h=>rV h λi h5 h=>⟨_,Z9m (m:=27) hn (sC h0 (sC h1 (sC h5 sN))) bN,.trans (Z88 (λv:Int=>(mkS 27 27 [(0,v1 y8 a .S),(1,v1 y8 b .S),(5,vI v)] [])) (j6O a b) (λ(k:Z6O Unit)=>(((λ(_:Unit)=>k (.exit 0) (mkS 27 27 [] [])),(λ(_:Unit)=>k .ret (mkS 27 27 [(4,vB false)] []))):(Unit->Res)×(Unit->Res))) (λv rec k=>by kernel_rfl) Z12 (i) k) h⟩
noncomputable def j4K (a:List qC) (b:List qC) (k0:Bool->Res):Res:=
 bif ((nI (List.length a)) != (nI (List.length b))) then
  k0 false
 else
  j61 a b Z12 0
   (λ(_:Unit)=>
    k0 true)
   (λ(_:Unit)=>
    k0 false)
noncomputable def j86:Sig Unit:=⟨[.look y8 false,.look y8 false],[false],λvals ext k=>av vals y8 λa vals=>av vals y8 λb vals=>nl vals<|nl ext<|j4K a b (λ(r0:Bool)=>k [wB r0] [] [])⟩
theorem jaM:Z1p Try.prog 117 j86:=j05 (np:=0) follows j01 (Z8K j8i Z94) [j7o] (oI 58 0 (j9T) oN) false Try.func117 λ_ _ k _ h=>aV h λ_ _ _ _ _ h=>aV h λ_ _ _ _ _ h=>nL h λ_ h=>nL h λ_ h=>by subst_vars;exact .trans (by kernel_rfl) h
noncomputable def j1Y (a:List qC) (k_:Int) (i:Int) (k0:qE->Res):Res:=
 bif inb i (List.length a) then
  k0 (upd a i ((nth (eS,0,false,false,0,0,eS) a i).1,(nth (eS,0,false,false,0,0,eS) a i).2.1,((Int.tmod k_ 3)==0),(nth (eS,0,false,false,0,0,eS) a i).2.2.2))
 else none
noncomputable def j1b:Z1q Unit:=λσ k=>rdN σ 71<|rd1 σ 0 y8 .O λa=>rdI σ 1 λk_=>rdI σ 5 λi=>j1Y a k_ i (λ(a1:List qC)=>k .normal (mkS 71 71 [(0,v1 y8 a1 .O),(1,vI k_),(5,vI i)] []))
theorem j8U {W0:Base} {M:Nat->Prop} (hnp:W0.np<=1):Z22 Try.prog W0 M (cAt 13470 (bo Try.f119)) j1b:=j1J follows j01 (Z8K j09 Z94) hnp [] oN ([0,1,5],[]) [] ([],[]) λσ k _ h=>rN h λhn h=>rV h λa h0 h=>rV h λk_ h1 h=>rV h λi h5 h=>⟨_,Z9m (m:=71) hn (sC h0 (sC h1 (sC h5 sN))) bN,.trans (by kernel_rfl) h⟩
noncomputable def j1Z (a:List qC) (k_:Int) (i:Int) (k0:qE->Res):Res:=
 bif inb i (List.length a) then
  k0 (upd a i ((nth (eS,0,false,false,0,0,eS) a i).1,(nth (eS,0,false,false,0,0,eS) a i).2.1,(nth (eS,0,false,false,0,0,eS) a i).2.2.1,(nth (eS,0,false,false,0,0,eS) a i).2.2.2.1,k_,(nth (eS,0,false,false,0,0,eS) a i).2.2.2.2.2))
 else none
noncomputable def j1H:Z1q Unit:=λσ k=>rdN σ 71<|rd1 σ 0 y8 .O λa=>rdI σ 1 λk_=>rdI σ 5 λi=>j1Z a k_ i (λ(a1:List qC)=>k .normal (mkS 71 71 [(0,v1 y8 a1 .O),(1,vI k_),(5,vI i)] []))
theorem j8V {W0:Base} {M:Nat->Prop} (hnp:W0.np<=1):Z22 Try.prog W0 M (cAt 215550 (bo Try.f119)) j1H:=j1J follows j01 (Z8K j09 Z94) hnp [j1b] oN ([0,1,5],[]) [] ([],[]) λσ k _ h=>rN h λhn h=>rV h λa h0 h=>rV h λk_ h1 h=>rV h λi h5 h=>⟨_,Z9m (m:=71) hn (sC h0 (sC h1 (sC h5 sN))) bN,.trans (by kernel_rfl) h⟩
noncomputable def j20 (a:List qC) (k_:Int) (i:Int) (k0:qE->Res):Res:=
 j0m k_ λ(r:qB)=>
  bif inb i (List.length a) then
   k0 (upd a i ((nth (eS,0,false,false,0,0,eS) a i).1,(nth (eS,0,false,false,0,0,eS) a i).2.1,(nth (eS,0,false,false,0,0,eS) a i).2.2.1,(nth (eS,0,false,false,0,0,eS) a i).2.2.2.1,(nth (eS,0,false,false,0,0,eS) a i).2.2.2.2.1,(nth (eS,0,false,false,0,0,eS) a i).2.2.2.2.2.1,r))
  else none
noncomputable def j2U:Z1q Unit:=λσ k=>rdN σ 71<|rd1 σ 0 y8 .O λa=>rdI σ 1 λk_=>rdI σ 5 λi=>j20 a k_ i (λ(a1:List qC)=>k .normal (mkS 71 71 [(0,v1 y8 a1 .O),(1,vI k_),(5,vI i)] []))
theorem j8W {W0:Base} {M:Nat->Prop} (hnp:W0.np<=1):Z22 Try.prog W0 M (cAt 3448830 (bo Try.f119)) j2U:=j1J follows j01 (Z8K j09 Z94) hnp [j1b,j1H] oN ([0,1,5],[]) [] ([],[]) λσ k _ h=>rN h λhn h=>rV h λa h0 h=>rV h λk_ h1 h=>rV h λi h5 h=>⟨_,Z9m (m:=71) hn (sC h0 (sC h1 (sC h5 sN))) bN,.trans (by kernel_rfl) h⟩
noncomputable def j0W (a:List qC) (k_:Int) (i:Int) (rec:qE->Int->Int->Res) (k0:qE->Int->Res):Res:=
 bif decide (i<(nI (List.length a))) then
  j0m k_ λ(r:qB)=>
   bif inb i (List.length a) then
    bif inb i (List.length (upd a i (r,(nth (eS,0,false,false,0,0,eS) a i).2))) then
     j1Y (upd (upd a i (r,(nth (eS,0,false,false,0,0,eS) a i).2)) i ((nth (eS,0,false,false,0,0,eS) (upd a i (r,(nth (eS,0,false,false,0,0,eS) a i).2)) i).1,Z8o (k_+1),(nth (eS,0,false,false,0,0,eS) (upd a i (r,(nth (eS,0,false,false,0,0,eS) a i).2)) i).2.2)) (Z8o ((Z8o (k_+1))+1)) i λ(a1:List qC)=>
      bif inb i (List.length a1) then
       j1Z (upd a1 i ((nth (eS,0,false,false,0,0,eS) a1 i).1,(nth (eS,0,false,false,0,0,eS) a1 i).2.1,(nth (eS,0,false,false,0,0,eS) a1 i).2.2.1,((Int.tmod (Z8o ((Z8o ((Z8o (k_+1))+1))+1)) 3)==0),(nth (eS,0,false,false,0,0,eS) a1 i).2.2.2.2)) (Z8o ((Z8o ((Z8o ((Z8o (k_+1))+1))+1))+1)) i λ(a2:List qC)=>
        bif inb i (List.length a2) then
         j20 (upd a2 i ((nth (eS,0,false,false,0,0,eS) a2 i).1,(nth (eS,0,false,false,0,0,eS) a2 i).2.1,(nth (eS,0,false,false,0,0,eS) a2 i).2.2.1,(nth (eS,0,false,false,0,0,eS) a2 i).2.2.2.1,(nth (eS,0,false,false,0,0,eS) a2 i).2.2.2.2.1,Z8o ((Z8o ((Z8o ((Z8o ((Z8o (k_+1))+1))+1))+1))+1),(nth (eS,0,false,false,0,0,eS) a2 i).2.2.2.2.2.2)) (Z8o ((Z8o ((Z8o ((Z8o ((Z8o ((Z8o (k_+1))+1))+1))+1))+1))+1)) i λ(a3:List qC)=>
          rec a3 (Z8o ((Z8o ((Z8o ((Z8o ((Z8o ((Z8o ((Z8o (k_+1))+1))+1))+1))+1))+1))+1)) (Z8o (i+1))
        else none
      else none
    else none
   else none
 else
  k0 a k_
noncomputable def j2z:(qE×Int×Int)->(qE×Int×Int->Res)->((qE->Int->Res))->Res:=λv rec q=>j0W v.1 v.2.1 v.2.2 (λa k_ i=>rec (a,k_,i)) q
noncomputable def j51 (n:Nat) (a:List qC) (k_:Int) (i:Int) (k0:qE->Int->Res):Res:=Z14 (j2z) n (a,k_,i) (k0)
noncomputable def j6A:Z1q Unit:=λσ k=>rdN σ 71<|rd1 σ 0 y8 .O λa=>rdI σ 1 λk_=>rdI σ 5 λi=>j51 Z12 a k_ i (λ(a4:List qC) (k_1:Int)=>k (.exit 0) (mkS 71 71 [(0,v1 y8 a4 .O),(1,vI k_1)] []))
theorem j8T {W0:Base} {M:Nat->Prop} (hnp:W0.np<=1):Z22 Try.prog W0 M (cAt 26 (bo Try.f119)) j6A:=j0f follows j01 (Z8K j09 Z94) hnp [j1b,j1H,j2U] (oI 414 0 (j8U) (oI 6654 1 (j8V) (oI 106494 2 (j8W) oN))) [0,1,5] [] ([],[]) [(0,[0,1],[])] ([],[]) λσ k _ h=>rN h λhn h=>rV h λa h0 h=>rV h λk_ h1 h=>rV h λi h5 h=>⟨_,Z9m (m:=71) hn (sC h0 (sC h1 (sC h5 sN))) bN,.trans (Z88 (λv:qE×Int×Int=>(mkS 71 71 [(0,v1 y8 v.1 .O),(1,vI v.2.1),(5,vI v.2.2)] [])) (j2z) (λ(k:Z6O Unit)=>(((λ(a4:List qC) (k_1:Int)=>k (.exit 0) (mkS 71 71 [(0,v1 y8 a4 .O),(1,vI k_1)] []))):(qE->Int->Res))) (λv rec k=>by delta j2z j0W j5z j1b j1H j2U;refine gz j0m λ_ e=> ?_;rewrite [<-e];refine gz j1Y λ_ e=> ?_;rewrite [<-e];refine gz j1Z λ_ e=> ?_;rewrite [<-e];refine gz j20 λ_ e=> ?_;rewrite [<-e];kernel_rfl) Z12 (a,k_,i) k) h⟩
noncomputable def j3w (a:List qC) (k_:Int) (k0:Int->qE->Res):Res:=
 j51 Z12 a k_ 0 λ(a1:List qC) (k_1:Int)=>
  k0 k_1 a1
noncomputable def j7l:Sig Unit:=⟨[.inout y8 false,.borrow tI false],[false],λvals ext k=>ao vals y8 [.O] λa vals=>av vals tI λk_ vals=>nl vals<|nl ext<|j3w a k_ (λ(r0:Int) (i0:List qC)=>k [wI r0] [w1 y8 i0 .O] [])⟩
theorem j9E:Z1p Try.prog 119 j7l:=j05 (np:=1) follows j01 (Z8K j09 Z94) [j1b,j1H,j2U,j6A] (oI 26 3 (j8T) oN) false Try.func119 λ_ _ k _ h=>aO h λ_ _ _ _ h=>aV h λ_ _ _ _ _ h=>nL h λ_ h=>nL h λ_ h=>by subst_vars;exact .trans (by kernel_rfl) h
noncomputable def j0U (a:List qC) (k_:Int) (i:Int) (rec:Int->Int->Res) (k0:Int->Res) (k1:Unit->Res):Res:=
 bif decide (i<(nI (List.length a))) then
  bif inb i (List.length a) then
   j0m k_ λ(r:qB)=>
    bif sNe (nth (eS,0,false,false,0,0,eS) a i).1 r then
     k1 ()
    else
     bif inb i (List.length a) then
      bif ((nth (eS,0,false,false,0,0,eS) a i).2.1 != (Z8o (k_+1))) then
       k1 ()
      else
       bif inb i (List.length a) then
        bif !((nth (eS,0,false,false,0,0,eS) a i).2.2.1==((Int.tmod (Z8o ((Z8o (k_+1))+1)) 3)==0)) then
         k1 ()
        else
         bif inb i (List.length a) then
          bif !((nth (eS,0,false,false,0,0,eS) a i).2.2.2.1==((Int.tmod (Z8o ((Z8o ((Z8o (k_+1))+1))+1)) 3)==0)) then
           k1 ()
          else
           bif inb i (List.length a) then
            bif ((nth (eS,0,false,false,0,0,eS) a i).2.2.2.2.1 != (Z8o ((Z8o ((Z8o ((Z8o (k_+1))+1))+1))+1))) then
             k1 ()
            else
             bif inb i (List.length a) then
              bif ((nth (eS,0,false,false,0,0,eS) a i).2.2.2.2.2.1 != (Z8o ((Z8o ((Z8o ((Z8o ((Z8o (k_+1))+1))+1))+1))+1))) then
               k1 ()
              else
               bif inb i (List.length a) then
                j0m (Z8o ((Z8o ((Z8o ((Z8o ((Z8o ((Z8o (k_+1))+1))+1))+1))+1))+1)) λ(r1:qB)=>
                 bif sNe (nth (eS,0,false,false,0,0,eS) a i).2.2.2.2.2.2 r1 then
                  k1 ()
                 else
                  rec (Z8o ((Z8o ((Z8o ((Z8o ((Z8o ((Z8o ((Z8o (k_+1))+1))+1))+1))+1))+1))+1)) (Z8o (i+1))
               else none
             else none
           else none
         else none
       else none
     else none
  else none
 else
  k0 k_
noncomputable def j2y (a:List qC):(Int×Int)->(Int×Int->Res)->((Int->Res)×(Unit->Res))->Res:=λv rec q=>j0U a v.1 v.2 (λk_ i=>rec (k_,i)) q.1 q.2
noncomputable def j4Z (a:List qC) (n:Nat) (k_:Int) (i:Int) (k0:Int->Res) (k1:Unit->Res):Res:=Z14 (j2y a) n (k_,i) (k0,k1)
noncomputable def j6y:Z1q Unit:=λσ k=>rdN σ 85<|rd1 σ 0 y8 .S λa=>rdI σ 1 λk_=>rdI σ 5 λi=>j4Z a Z12 k_ i (λ(k_1:Int)=>k (.exit 0) (mkS 85 85 [(1,vI k_1)] [])) (λ(_:Unit)=>k .ret (mkS 85 85 [(4,vI (-1))] []))
theorem j8R {W0:Base} {M:Nat->Prop} (hnp:W0.np<=0):Z22 Try.prog W0 M (cAt 26 (bo Try.f120)) j6y:=j0f follows j01 (Z8K j09 Z94) hnp [] oN [0,1,5] [] ([],[]) [(0,[1],[])] ([4],[]) λσ k _ h=>rN h λhn h=>rV h λa h0 h=>rV h λk_ h1 h=>rV h λi h5 h=>⟨_,Z9m (m:=85) hn (sC h0 (sC h1 (sC h5 sN))) bN,.trans (Z88 (λv:Int×Int=>(mkS 85 85 [(0,v1 y8 a .S),(1,vI v.1),(5,vI v.2)] [])) (j2y a) (λ(k:Z6O Unit)=>(((λ(k_1:Int)=>k (.exit 0) (mkS 85 85 [(1,vI k_1)] [])),(λ(_:Unit)=>k .ret (mkS 85 85 [(4,vI (-1))] []))):(Int->Res)×(Unit->Res))) (λv rec k=>by delta j2y j0U j5z;refine gz j0m λ_ e=> ?_;rewrite [<-e];kernel_rfl) Z12 (k_,i) k) h⟩
noncomputable def j3v (a:List qC) (k_:Int) (k0:Int->Res):Res:=
 j4Z a Z12 k_ 0
  (λ(k_1:Int)=>
   k0 k_1)
  (λ(_:Unit)=>
   k0 (-1))
noncomputable def j7j:Sig Unit:=⟨[.look y8 false,.look tI false],[false],λvals ext k=>av vals y8 λa vals=>av vals tI λk_ vals=>nl vals<|nl ext<|j3v a k_ (λ(r0:Int)=>k [wI r0] [] [])⟩
theorem j9C:Z1p Try.prog 120 j7j:=j05 (np:=0) follows j01 (Z8K j09 Z94) [j6y] (oI 26 0 (j8R) oN) false Try.func120 λ_ _ k _ h=>aV h λ_ _ _ _ _ h=>aV h λ_ _ _ _ _ h=>nL h λ_ h=>nL h λ_ h=>by subst_vars;exact .trans (by kernel_rfl) h
end Go.PI.G
namespace Go.PI.G
open Go Go.PI Go.Proofs
open Go.Code (pl pr)
noncomputable def j1i (a:qL) (b:qL) (i:Int) (rec:Int->Res) (k0:Unit->Res) (k1:Unit->Res):Res:=
 bif decide (i<(nI (List.length a))) then
  bif inb i (List.length a) then
   bif inb i (List.length b) then
    bif sNe (nth eS a i) (nth eS b i) then
     k1 ()
    else
     rec (Z8o (i+1))
   else none
  else none
 else
  k0 ()
noncomputable def j5U (a:qL) (b:qL):Int->(Int->Res)->((Unit->Res)×(Unit->Res))->Res:=λv rec q=>j1i a b v (λi=>rec (i)) q.1 q.2
noncomputable def j4w (a:qL) (b:qL) (n:Nat) (i:Int) (k0:Unit->Res) (k1:Unit->Res):Res:=Z14 (j5U a b) n (i) (k0,k1)
noncomputable def j6l:Z1q Unit:=λσ k=>rdN σ 26<|rd1 σ 0 y9 .S λa=>rd1 σ 1 y9 .S λb=>rdI σ 5 λi=>j4w a b Z12 i (λ(_:Unit)=>k (.exit 0) (mkS 26 26 [] [])) (λ(_:Unit)=>k .ret (mkS 26 26 [(4,vB false)] []))
theorem j8v {W0:Base} {M:Nat->Prop} (hnp:W0.np<=0):Z22 Try.prog W0 M (cAt 58 (bo Try.f80)) j6l:=j0f follows j01 Z94 hnp [] oN [0,1,5] [] ([],[]) [(0,[],[])] ([4],[]) λσ k _ h=>rN h λhn h=>rV h λa h0 h=>rV h λb h1 h=>rV h λi h5 h=>⟨_,Z9m (m:=26) hn (sC h0 (sC h1 (sC h5 sN))) bN,.trans (Z88 (λv:Int=>(mkS 26 26 [(0,v1 y9 a .S),(1,v1 y9 b .S),(5,vI v)] [])) (j5U a b) (λ(k:Z6O Unit)=>(((λ(_:Unit)=>k (.exit 0) (mkS 26 26 [] [])),(λ(_:Unit)=>k .ret (mkS 26 26 [(4,vB false)] []))):(Unit->Res)×(Unit->Res))) (λv rec k=>by kernel_rfl) Z12 (i) k) h⟩
noncomputable def j2Y (a:qL) (b:qL) (k0:Bool->Res):Res:=
 bif ((nI (List.length a)) != (nI (List.length b))) then
  k0 false
 else
  j4w a b Z12 0
   (λ(_:Unit)=>
    k0 true)
   (λ(_:Unit)=>
    k0 false)
noncomputable def j6Y:Sig Unit:=⟨[.look y9 false,.look y9 false],[false],λvals ext k=>av vals y9 λa vals=>av vals y9 λb vals=>nl vals<|nl ext<|j2Y a b (λ(r0:Bool)=>k [wB r0] [] [])⟩
theorem j9i:Z1p Try.prog 80 j6Y:=j05 (np:=0) follows j01 Z94 [j6l] (oI 58 0 (j8v) oN) false Try.func80 λ_ _ k _ h=>aV h λ_ _ _ _ _ h=>aV h λ_ _ _ _ _ h=>nL h λ_ h=>nL h λ_ h=>by subst_vars;exact .trans (by kernel_rfl) h
noncomputable def j0X (a:qL) (k_:Int) (i:Int) (rec:qL->Int->Int->Res) (k0:qL->Int->Res):Res:=
 bif decide (i<(nI (List.length a))) then
  j0m k_ λ(r:qB)=>
   bif inb i (List.length a) then
    rec (upd a i r) (Z8o (k_+1)) (Z8o (i+1))
   else none
 else
  k0 a k_
noncomputable def j33:(qL×Int×Int)->(qL×Int×Int->Res)->((qL->Int->Res))->Res:=λv rec q=>j0X v.1 v.2.1 v.2.2 (λa k_ i=>rec (a,k_,i)) q
noncomputable def j3F (n:Nat) (a:qL) (k_:Int) (i:Int) (k0:qL->Int->Res):Res:=Z14 (j33) n (a,k_,i) (k0)
noncomputable def j5N:Z1q Unit:=λσ k=>rdN σ 20<|rd1 σ 0 y9 .O λa=>rdI σ 1 λk_=>rdI σ 5 λi=>j3F Z12 a k_ i (λ(a1:qL) (k_1:Int)=>k (.exit 0) (mkS 20 20 [(0,v1 y9 a1 .O),(1,vI k_1)] []))
theorem j7U {W0:Base} {M:Nat->Prop} (hnp:W0.np<=1):Z22 Try.prog W0 M (cAt 26 (bo Try.f81)) j5N:=j0f follows j01 (Z8K j09 Z94) hnp [] oN [0,1,5] [] ([],[]) [(0,[0,1],[])] ([],[]) λσ k _ h=>rN h λhn h=>rV h λa h0 h=>rV h λk_ h1 h=>rV h λi h5 h=>⟨_,Z9m (m:=20) hn (sC h0 (sC h1 (sC h5 sN))) bN,.trans (Z88 (λv:qL×Int×Int=>(mkS 20 20 [(0,v1 y9 v.1 .O),(1,vI v.2.1),(5,vI v.2.2)] [])) (j33) (λ(k:Z6O Unit)=>(((λ(a1:qL) (k_1:Int)=>k (.exit 0) (mkS 20 20 [(0,v1 y9 a1 .O),(1,vI k_1)] []))):(qL->Int->Res))) (λv rec k=>by kernel_rfl) Z12 (a,k_,i) k) h⟩
noncomputable def j21 (a:qL) (k_:Int) (k0:Int->qL->Res):Res:=
 j3F Z12 a k_ 0 λ(a1:qL) (k_1:Int)=>
  k0 k_1 a1
noncomputable def j6j:Sig Unit:=⟨[.inout y9 false,.borrow tI false],[false],λvals ext k=>ao vals y9 [.O] λa vals=>av vals tI λk_ vals=>nl vals<|nl ext<|j21 a k_ (λ(r0:Int) (i0:qL)=>k [wI r0] [w1 y9 i0 .O] [])⟩
theorem j8k:Z1p Try.prog 81 j6j:=j05 (np:=1) follows j01 (Z8K j09 Z94) [j5N] (oI 26 0 (j7U) oN) false Try.func81 λ_ _ k _ h=>aO h λ_ _ _ _ h=>aV h λ_ _ _ _ _ h=>nL h λ_ h=>nL h λ_ h=>by subst_vars;exact .trans (by kernel_rfl) h
noncomputable def j0V (a:qL) (k_:Int) (i:Int) (rec:Int->Int->Res) (k0:Int->Res) (k1:Unit->Res):Res:=
 bif decide (i<(nI (List.length a))) then
  bif inb i (List.length a) then
   j0m k_ λ(r:qB)=>
    bif sNe (nth eS a i) r then
     k1 ()
    else
     rec (Z8o (k_+1)) (Z8o (i+1))
  else none
 else
  k0 k_
noncomputable def j30 (a:qL):(Int×Int)->(Int×Int->Res)->((Int->Res)×(Unit->Res))->Res:=λv rec q=>j0V a v.1 v.2 (λk_ i=>rec (k_,i)) q.1 q.2
noncomputable def j3D (a:qL) (n:Nat) (k_:Int) (i:Int) (k0:Int->Res) (k1:Unit->Res):Res:=Z14 (j30 a) n (k_,i) (k0,k1)
noncomputable def j5M:Z1q Unit:=λσ k=>rdN σ 22<|rd1 σ 0 y9 .S λa=>rdI σ 1 λk_=>rdI σ 5 λi=>j3D a Z12 k_ i (λ(k_1:Int)=>k (.exit 0) (mkS 22 22 [(1,vI k_1)] [])) (λ(_:Unit)=>k .ret (mkS 22 22 [(4,vI (-1))] []))
theorem j7T {W0:Base} {M:Nat->Prop} (hnp:W0.np<=0):Z22 Try.prog W0 M (cAt 26 (bo Try.f82)) j5M:=j0f follows j01 (Z8K j09 Z94) hnp [] oN [0,1,5] [] ([],[]) [(0,[1],[])] ([4],[]) λσ k _ h=>rN h λhn h=>rV h λa h0 h=>rV h λk_ h1 h=>rV h λi h5 h=>⟨_,Z9m (m:=22) hn (sC h0 (sC h1 (sC h5 sN))) bN,.trans (Z88 (λv:Int×Int=>(mkS 22 22 [(0,v1 y9 a .S),(1,vI v.1),(5,vI v.2)] [])) (j30 a) (λ(k:Z6O Unit)=>(((λ(k_1:Int)=>k (.exit 0) (mkS 22 22 [(1,vI k_1)] [])),(λ(_:Unit)=>k .ret (mkS 22 22 [(4,vI (-1))] []))):(Int->Res)×(Unit->Res))) (λv rec k=>by kernel_rfl) Z12 (k_,i) k) h⟩
noncomputable def j1X (a:qL) (k_:Int) (k0:Int->Res):Res:=
 j3D a Z12 k_ 0
  (λ(k_1:Int)=>
   k0 k_1)
  (λ(_:Unit)=>
   k0 (-1))
noncomputable def j6i:Sig Unit:=⟨[.look y9 false,.look tI false],[false],λvals ext k=>av vals y9 λa vals=>av vals tI λk_ vals=>nl vals<|nl ext<|j1X a k_ (λ(r0:Int)=>k [wI r0] [] [])⟩
theorem j8j:Z1p Try.prog 82 j6i:=j05 (np:=0) follows j01 (Z8K j09 Z94) [j5M] (oI 26 0 (j7T) oN) false Try.func82 λ_ _ k _ h=>aV h λ_ _ _ _ _ h=>aV h λ_ _ _ _ _ h=>nL h λ_ h=>nL h λ_ h=>by subst_vars;exact .trans (by kernel_rfl) h
end Go.PI.G
namespace Go.PI.G
open Go Go.PI Go.Proofs
open Go.Code (pl pr)
noncomputable def j4i (a:qG) (b:qG) (k0:Bool->Res):Res:=
 bif (a.1 != b.1) then
  k0 false
 else
  bif sNe a.2.1 b.2.1 then
   k0 false
  else
   j4K a.2.2.1 b.2.2.1 λ(r:Bool)=>
    bif !r then
     k0 false
    else
     j2Y a.2.2.2.1 b.2.2.2.1 λ(r1:Bool)=>
      bif !r1 then
       k0 false
      else
       bif sNe a.2.2.2.2.1 b.2.2.2.2.1 then
        k0 false
       else
        bif sNe a.2.2.2.2.2 b.2.2.2.2.2 then
         k0 false
        else
         k0 true
noncomputable def j8y:Sig Unit:=⟨[.look y14 true,.look y14 true],[false],λvals ext k=>av vals y14 λa vals=>av vals y14 λb vals=>nl vals<|nl ext<|j4i a b (λ(r0:Bool)=>k [wB r0] [] [])⟩
theorem jb8:Z1p Try.prog 55 j8y:=j05 (np:=0) follows j01 (Z8K j9i (Z8K jaM Z94)) [] oN false Try.func55 λ_ _ k _ h=>aV h λ_ _ _ _ _ h=>aV h λ_ _ _ _ _ h=>nL h λ_ h=>nL h λ_ h=>by subst_vars;exact .trans (by delta j4i j86 j6Y;refine gz j4K λ_ e=> ?_;rewrite [<-e];refine gz j2Y λ_ e=> ?_;rewrite [<-e];kernel_rfl) h
noncomputable def j32 (a:qG) (k_:Int) (k0:Int->qG->Res):Res:=
 j3w a.2.2.1 k_ λ(r:Int) (a1:List qC)=>
  j21 a.2.2.2.1 r λ(r1:Int) (a2:qL)=>
   k0 r1 (a.1,a.2.1,a1,a2,a.2.2.2.2)
noncomputable def j7O:Sig Unit:=⟨[.inout y14 true,.borrow tI false],[false],λvals ext k=>ao vals y14 [.O,.O] λa vals=>av vals tI λk_ vals=>nl vals<|nl ext<|j32 a k_ (λ(r0:Int) (i0:qG)=>k [wI r0] [⟨y14,true,i0,[.O,.O]⟩] [])⟩
theorem jah:Z1p Try.prog 58 j7O:=j05 (np:=1) follows j01 (Z8K j8k (Z8K j9E Z94)) [] oN false Try.func58 λ_ _ k _ h=>aO h λ_ _ _ _ h=>aV h λ_ _ _ _ _ h=>nL h λ_ h=>nL h λ_ h=>by subst_vars;exact .trans (by delta j32 j7l j6j;refine gz j3w λ_ e=> ?_;rewrite [<-e];refine gz j21 λ_ e=> ?_;rewrite [<-e];kernel_rfl) h
noncomputable def j2Z (a:qG) (k_:Int) (k0:Int->Res):Res:=
 j3v a.2.2.1 k_ λ(r:Int)=>
  bif decide (r<0) then
   k0 (-1)
  else
   j1X a.2.2.2.1 r λ(r1:Int)=>
    bif decide (r1<0) then
     k0 (-1)
    else
     k0 r1
noncomputable def j7M:Sig Unit:=⟨[.look y14 true,.look tI false],[false],λvals ext k=>av vals y14 λa vals=>av vals tI λk_ vals=>nl vals<|nl ext<|j2Z a k_ (λ(r0:Int)=>k [wI r0] [] [])⟩
theorem jaf:Z1p Try.prog 61 j7M:=j05 (np:=0) follows j01 (Z8K j8j (Z8K j9C Z94)) [] oN false Try.func61 λ_ _ k _ h=>aV h λ_ _ _ _ _ h=>aV h λ_ _ _ _ _ h=>nL h λ_ h=>nL h λ_ h=>by subst_vars;exact .trans (by delta j2Z j7j j6i;refine gz j3v λ_ e=> ?_;rewrite [<-e];refine gz j1X λ_ e=> ?_;rewrite [<-e];kernel_rfl) h
end Go.PI.G
namespace Go.PI.G
open Go Go.PI Go.Proofs
open Go.Code (pl pr)
noncomputable def j1W (a:List qV) (b:List qV) (i:Int) (rec:Int->Res) (k0:Unit->Res) (k1:Unit->Res):Res:=
 bif decide (i<(nI (List.length a))) then
  bif inb i (List.length a) then
   bif inb i (List.length b) then
    j5t (nth (0,0,eS) a i) (nth (0,0,eS) b i) λ(r:Bool)=>
     bif !r then
      k1 ()
     else
      rec (Z8o (i+1))
   else none
  else none
 else
  k0 ()
noncomputable def j6P (a:List qV) (b:List qV):Int->(Int->Res)->((Unit->Res)×(Unit->Res))->Res:=λv rec q=>j1W a b v (λi=>rec (i)) q.1 q.2
noncomputable def j62 (a:List qV) (b:List qV) (n:Nat) (i:Int) (k0:Unit->Res) (k1:Unit->Res):Res:=Z14 (j6P a b) n (i) (k0,k1)
noncomputable def j7p:Z1q Unit:=λσ k=>rdN σ 27<|rd1 σ 0 y3 .S λa=>rd1 σ 1 y3 .S λb=>rdI σ 5 λi=>j62 a b Z12 i (λ(_:Unit)=>k (.exit 0) (mkS 27 27 [] [])) (λ(_:Unit)=>k .ret (mkS 27 27 [(4,vB false)] []))
theorem j9U {W0:Base} {M:Nat->Prop} (hnp:W0.np<=0):Z22 Try.prog W0 M (cAt 58 (bo Try.f53)) j7p:=j0f follows j01 (Z8K j6L Z94) hnp [] oN [0,1,5] [] ([],[]) [(0,[],[])] ([4],[]) λσ k _ h=>rN h λhn h=>rV h λa h0 h=>rV h λb h1 h=>rV h λi h5 h=>⟨_,Z9m (m:=27) hn (sC h0 (sC h1 (sC h5 sN))) bN,.trans (Z88 (λv:Int=>(mkS 27 27 [(0,v1 y3 a .S),(1,v1 y3 b .S),(5,vI v)] [])) (j6P a b) (λ(k:Z6O Unit)=>(((λ(_:Unit)=>k (.exit 0) (mkS 27 27 [] [])),(λ(_:Unit)=>k .ret (mkS 27 27 [(4,vB false)] []))):(Unit->Res)×(Unit->Res))) (λv rec k=>by kernel_rfl) Z12 (i) k) h⟩
noncomputable def j3z (a:List qV) (b:List qV) (k0:Bool->Res):Res:=
 bif ((nI (List.length a)) != (nI (List.length b))) then
  k0 false
 else
  j62 a b Z12 0
   (λ(_:Unit)=>
    k0 true)
   (λ(_:Unit)=>
    k0 false)
noncomputable def j87:Sig Unit:=⟨[.look y3 false,.look y3 false],[false],λvals ext k=>av vals y3 λa vals=>av vals y3 λb vals=>nl vals<|nl ext<|j3z a b (λ(r0:Bool)=>k [wB r0] [] [])⟩
theorem j83:Z1p Try.prog 53 j87:=j05 (np:=0) follows j01 (Z8K j6L Z94) [j7p] (oI 58 0 (j9U) oN) false Try.func53 λ_ _ k _ h=>aV h λ_ _ _ _ _ h=>aV h λ_ _ _ _ _ h=>nL h λ_ h=>nL h λ_ h=>by subst_vars;exact .trans (by kernel_rfl) h
noncomputable def j1s (a:List qV) (k_:Int) (i:Int) (rec:qW->Int->Int->Res) (k0:qW->Int->Res):Res:=
 bif decide (i<(nI (List.length a))) then
  bif inb i (List.length a) then
   bif inb i (List.length (upd a i (k_,(nth (0,0,eS) a i).2))) then
    j0m (Z8o ((Z8o (k_+1))+1)) λ(r:qB)=>
     bif inb i (List.length (upd (upd a i (k_,(nth (0,0,eS) a i).2)) i ((nth (0,0,eS) (upd a i (k_,(nth (0,0,eS) a i).2)) i).1,Z8o (k_+1),(nth (0,0,eS) (upd a i (k_,(nth (0,0,eS) a i).2)) i).2.2))) then
      rec (upd (upd (upd a i (k_,(nth (0,0,eS) a i).2)) i ((nth (0,0,eS) (upd a i (k_,(nth (0,0,eS) a i).2)) i).1,Z8o (k_+1),(nth (0,0,eS) (upd a i (k_,(nth (0,0,eS) a i).2)) i).2.2)) i ((nth (0,0,eS) (upd (upd a i (k_,(nth (0,0,eS) a i).2)) i ((nth (0,0,eS) (upd a i (k_,(nth (0,0,eS) a i).2)) i).1,Z8o (k_+1),(nth (0,0,eS) (upd a i (k_,(nth (0,0,eS) a i).2)) i).2.2)) i).1,(nth (0,0,eS) (upd (upd a i (k_,(nth (0,0,eS) a i).2)) i ((nth (0,0,eS) (upd a i (k_,(nth (0,0,eS) a i).2)) i).1,Z8o (k_+1),(nth (0,0,eS) (upd a i (k_,(nth (0,0,eS) a i).2)) i).2.2)) i).2.1,r)) (Z8o ((Z8o ((Z8o (k_+1))+1))+1)) (Z8o (i+1))
     else none
   else none
  else none
 else
  k0 a k_
noncomputable def j3Y:(qW×Int×Int)->(qW×Int×Int->Res)->((qW->Int->Res))->Res:=λv rec q=>j1s v.1 v.2.1 v.2.2 (λa k_ i=>rec (a,k_,i)) q
noncomputable def j53 (n:Nat) (a:List qV) (k_:Int) (i:Int) (k0:qW->Int->Res):Res:=Z14 (j3Y) n (a,k_,i) (k0)
noncomputable def j6C:Z1q Unit:=λσ k=>rdN σ 35<|rd1 σ 0 y3 .O λa=>rdI σ 1 λk_=>rdI σ 5 λi=>j53 Z12 a k_ i (λ(a1:List qV) (k_1:Int)=>k (.exit 0) (mkS 35 35 [(0,v1 y3 a1 .O),(1,vI k_1)] []))
theorem j8Y {W0:Base} {M:Nat->Prop} (hnp:W0.np<=1):Z22 Try.prog W0 M (cAt 26 (bo Try.f56)) j6C:=j0f follows j01 (Z8K j09 Z94) hnp [] oN [0,1,5] [] ([],[]) [(0,[0,1],[])] ([],[]) λσ k _ h=>rN h λhn h=>rV h λa h0 h=>rV h λk_ h1 h=>rV h λi h5 h=>⟨_,Z9m (m:=35) hn (sC h0 (sC h1 (sC h5 sN))) bN,.trans (Z88 (λv:qW×Int×Int=>(mkS 35 35 [(0,v1 y3 v.1 .O),(1,vI v.2.1),(5,vI v.2.2)] [])) (j3Y) (λ(k:Z6O Unit)=>(((λ(a1:List qV) (k_1:Int)=>k (.exit 0) (mkS 35 35 [(0,v1 y3 a1 .O),(1,vI k_1)] []))):(qW->Int->Res))) (λv rec k=>by kernel_rfl) Z12 (a,k_,i) k) h⟩
noncomputable def j2m (a:List qV) (k_:Int) (k0:Int->qW->Res):Res:=
 j53 Z12 a k_ 0 λ(a1:List qV) (k_1:Int)=>
  k0 k_1 a1
noncomputable def j7m:Sig Unit:=⟨[.inout y3 false,.borrow tI false],[false],λvals ext k=>ao vals y3 [.O] λa vals=>av vals tI λk_ vals=>nl vals<|nl ext<|j2m a k_ (λ(r0:Int) (i0:List qV)=>k [wI r0] [w1 y3 i0 .O] [])⟩
theorem j7e:Z1p Try.prog 56 j7m:=j05 (np:=1) follows j01 (Z8K j09 Z94) [j6C] (oI 26 0 (j8Y) oN) false Try.func56 λ_ _ k _ h=>aO h λ_ _ _ _ h=>aV h λ_ _ _ _ _ h=>nL h λ_ h=>nL h λ_ h=>by subst_vars;exact .trans (by kernel_rfl) h
noncomputable def j1q (a:List qV) (k_:Int) (i:Int) (rec:Int->Int->Res) (k0:Int->Res) (k1:Unit->Res):Res:=
 bif decide (i<(nI (List.length a))) then
  bif inb i (List.length a) then
   bif ((nth (0,0,eS) a i).1 != k_) then
    k1 ()
   else
    bif inb i (List.length a) then
     bif ((nth (0,0,eS) a i).2.1 != (Z8o (k_+1))) then
      k1 ()
     else
      bif inb i (List.length a) then
       j0m (Z8o ((Z8o (k_+1))+1)) λ(r:qB)=>
        bif sNe (nth (0,0,eS) a i).2.2 r then
         k1 ()
        else
         rec (Z8o ((Z8o ((Z8o (k_+1))+1))+1)) (Z8o (i+1))
      else none
    else none
  else none
 else
  k0 k_
noncomputable def j3W (a:List qV):(Int×Int)->(Int×Int->Res)->((Int->Res)×(Unit->Res))->Res:=λv rec q=>j1q a v.1 v.2 (λk_ i=>rec (k_,i)) q.1 q.2
noncomputable def j50 (a:List qV) (n:Nat) (k_:Int) (i:Int) (k0:Int->Res) (k1:Unit->Res):Res:=Z14 (j3W a) n (k_,i) (k0,k1)
noncomputable def j6z:Z1q Unit:=λσ k=>rdN σ 41<|rd1 σ 0 y3 .S λa=>rdI σ 1 λk_=>rdI σ 5 λi=>j50 a Z12 k_ i (λ(k_1:Int)=>k (.exit 0) (mkS 41 41 [(1,vI k_1)] [])) (λ(_:Unit)=>k .ret (mkS 41 41 [(4,vI (-1))] []))
theorem j8S {W0:Base} {M:Nat->Prop} (hnp:W0.np<=0):Z22 Try.prog W0 M (cAt 26 (bo Try.f59)) j6z:=j0f follows j01 (Z8K j09 Z94) hnp [] oN [0,1,5] [] ([],[]) [(0,[1],[])] ([4],[]) λσ k _ h=>rN h λhn h=>rV h λa h0 h=>rV h λk_ h1 h=>rV h λi h5 h=>⟨_,Z9m (m:=41) hn (sC h0 (sC h1 (sC h5 sN))) bN,.trans (Z88 (λv:Int×Int=>(mkS 41 41 [(0,v1 y3 a .S),(1,vI v.1),(5,vI v.2)] [])) (j3W a) (λ(k:Z6O Unit)=>(((λ(k_1:Int)=>k (.exit 0) (mkS 41 41 [(1,vI k_1)] [])),(λ(_:Unit)=>k .ret (mkS 41 41 [(4,vI (-1))] []))):(Int->Res)×(Unit->Res))) (λv rec k=>by kernel_rfl) Z12 (k_,i) k) h⟩
noncomputable def j2k (a:List qV) (k_:Int) (k0:Int->Res):Res:=
 j50 a Z12 k_ 0
  (λ(k_1:Int)=>
   k0 k_1)
  (λ(_:Unit)=>
   k0 (-1))
noncomputable def j7k:Sig Unit:=⟨[.look y3 false,.look tI false],[false],λvals ext k=>av vals y3 λa vals=>av vals tI λk_ vals=>nl vals<|nl ext<|j2k a k_ (λ(r0:Int)=>k [wI r0] [] [])⟩
theorem j7d:Z1p Try.prog 59 j7k:=j05 (np:=0) follows j01 (Z8K j09 Z94) [j6z] (oI 26 0 (j8S) oN) false Try.func59 λ_ _ k _ h=>aV h λ_ _ _ _ _ h=>aV h λ_ _ _ _ _ h=>nL h λ_ h=>nL h λ_ h=>by subst_vars;exact .trans (by kernel_rfl) h
end Go.PI.G
namespace Go.PI.G
open Go Go.PI Go.Proofs
open Go.Code (pl pr)
noncomputable def j5s (a:List qV) (b:List qV) (k0:Bool->Res):Res:=
 j3z a b λ(r:Bool)=>
  bif !r then
   k0 false
  else
   k0 true
noncomputable def j8z:Sig Unit:=⟨[.look y3 true,.look y3 true],[false],λvals ext k=>av vals y3 λa vals=>av vals y3 λb vals=>nl vals<|nl ext<|j5s a b (λ(r0:Bool)=>k [wB r0] [] [])⟩
theorem jb9:Z1p Try.prog 54 j8z:=j05 (np:=0) follows j01 (Z8K j83 Z94) [] oN false Try.func54 λ_ _ k _ h=>aV h λ_ _ _ _ _ h=>aV h λ_ _ _ _ _ h=>nL h λ_ h=>nL h λ_ h=>by subst_vars;exact .trans (by kernel_rfl) h
noncomputable def j3X (a:List qV) (k_:Int) (k0:Int->qW->Res):Res:=
 j2m a k_ λ(r:Int) (a1:List qV)=>
  k0 r a1
noncomputable def j7P:Sig Unit:=⟨[.inout y3 true,.borrow tI false],[false],λvals ext k=>ao vals y3 [.O] λa vals=>av vals tI λk_ vals=>nl vals<|nl ext<|j3X a k_ (λ(r0:Int) (i0:List qV)=>k [wI r0] [⟨y3,true,i0,[.O]⟩] [])⟩
theorem jai:Z1p Try.prog 57 j7P:=j05 (np:=1) follows j01 (Z8K j7e Z94) [] oN false Try.func57 λ_ _ k _ h=>aO h λ_ _ _ _ h=>aV h λ_ _ _ _ _ h=>nL h λ_ h=>nL h λ_ h=>by subst_vars;exact .trans (by kernel_rfl) h
noncomputable def j3V (a:List qV) (k_:Int) (k0:Int->Res):Res:=
 j2k a k_ λ(r:Int)=>
  bif decide (r<0) then
   k0 (-1)
  else
   k0 r
noncomputable def j7N:Sig Unit:=⟨[.look y3 true,.look tI false],[false],λvals ext k=>av vals y3 λa vals=>av vals tI λk_ vals=>nl vals<|nl ext<|j3V a k_ (λ(r0:Int)=>k [wI r0] [] [])⟩
theorem jag:Z1p Try.prog 60 j7N:=j05 (np:=0) follows j01 (Z8K j7d Z94) [] oN false Try.func60 λ_ _ k _ h=>aV h λ_ _ _ _ _ h=>aV h λ_ _ _ _ _ h=>nL h λ_ h=>nL h λ_ h=>by subst_vars;exact .trans (by kernel_rfl) h
end Go.PI.G
namespace Go.PI.G
open Go Go.PI Go.Proofs
open Go.Code (pl pr)
noncomputable def j1o (a:qS) (b:qS) (k0:Bool->Res):Res:=
 bif (a.1 != b.1) then
  k0 false
 else
  bif sNe a.2.1 b.2.1 then
   k0 false
  else
   j3z a.2.2.1 b.2.2.1 λ(r:Bool)=>
    bif !r then
     k0 false
    else
     j5s a.2.2.2.1 b.2.2.2.1 λ(r1:Bool)=>
      bif !r1 then
       k0 false
      else
       j4i a.2.2.2.2 b.2.2.2.2 λ(r2:Bool)=>
        bif !r2 then
         k0 false
        else
         k0 true
noncomputable def j4S:Sig Unit:=⟨[.look y18 true,.look y18 true],[false],λvals ext k=>av vals y18 λa vals=>av vals y18 λb vals=>nl vals<|nl ext<|j1o a b (λ(r0:Bool)=>k [wB r0] [] [])⟩
theorem jaN:Z1p Try.prog 11 j4S:=j05 (np:=0) follows j01 (Z8K j83 (Z8K jb9 (Z8K jb8 Z94))) [] oN false Try.func11 λ_ _ k _ h=>aV h λ_ _ _ _ _ h=>aV h λ_ _ _ _ _ h=>nL h λ_ h=>nL h λ_ h=>by subst_vars;exact .trans (by delta j1o j87 j8z j8y;refine gz j3z λ_ e=> ?_;rewrite [<-e];refine gz j5s λ_ e=> ?_;rewrite [<-e];refine gz j4i λ_ e=> ?_;rewrite [<-e];kernel_rfl) h
noncomputable def j2l (a:qS) (k_:Int) (k0:Int->qS->Res):Res:=
 j2m a.2.2.1 k_ λ(r:Int) (a1:List qV)=>
  j3X a.2.2.2.1 r λ(r1:Int) (a2:List qV)=>
   j32 a.2.2.2.2 r1 λ(r2:Int) (a3:qG)=>
    k0 r2 (a.1,a.2.1,a1,a2,a3)
noncomputable def j5y:Sig Unit:=⟨[.inout y18 true,.borrow tI false],[false],λvals ext k=>ao vals y18 [.O,.O,.O,.O] λa vals=>av vals tI λk_ vals=>nl vals<|nl ext<|j2l a k_ (λ(r0:Int) (i0:qS)=>k [wI r0] [⟨y18,true,i0,[.O,.O,.O,.O]⟩] [])⟩
theorem j9F:Z1p Try.prog 14 j5y:=j05 (np:=1) follows j01 (Z8K j7e (Z8K jai (Z8K jah Z94))) [] oN false Try.func14 λ_ _ k _ h=>aO h λ_ _ _ _ h=>aV h λ_ _ _ _ _ h=>nL h λ_ h=>nL h λ_ h=>by subst_vars;exact .trans (by delta j2l j7m j7P j7O;refine gz j2m λ_ e=> ?_;rewrite [<-e];refine gz j3X λ_ e=> ?_;rewrite [<-e];refine gz j32 λ_ e=> ?_;rewrite [<-e];kernel_rfl) h
noncomputable def j1v (a:qS) (k_:Int) (k0:Int->Res):Res:=
 j2k a.2.2.1 k_ λ(r:Int)=>
  bif decide (r<0) then
   k0 (-1)
  else
   j3V a.2.2.2.1 r λ(r1:Int)=>
    bif decide (r1<0) then
     k0 (-1)
    else
     j2Z a.2.2.2.2 r1 λ(r2:Int)=>
      bif decide (r2<0) then
       k0 (-1)
      else
       k0 r2
noncomputable def j5x:Sig Unit:=⟨[.look y18 true,.look tI false],[false],λvals ext k=>av vals y18 λa vals=>av vals tI λk_ vals=>nl vals<|nl ext<|j1v a k_ (λ(r0:Int)=>k [wI r0] [] [])⟩
theorem j9D:Z1p Try.prog 15 j5x:=j05 (np:=0) follows j01 (Z8K j7d (Z8K jag (Z8K jaf Z94))) [] oN false Try.func15 λ_ _ k _ h=>aV h λ_ _ _ _ _ h=>aV h λ_ _ _ _ _ h=>nL h λ_ h=>nL h λ_ h=>by subst_vars;exact .trans (by delta j1v j7k j7N j7M;refine gz j2k λ_ e=> ?_;rewrite [<-e];refine gz j3V λ_ e=> ?_;rewrite [<-e];refine gz j2Z λ_ e=> ?_;rewrite [<-e];kernel_rfl) h
end Go.PI.G
namespace Go.PI.G
open Go Go.PI Go.Proofs
open Go.Code (pl pr)
theorem j4H:Fns Try.prog [(8,j5A),(9,j4m),(10,j3K),(11,j4S),(12,j64),(13,j56),(14,j5y),(15,j5x)]:=(Z8K j9G (Z8K jaj (Z8K j9A (Z8K jaN (Z8K jae (Z8K j9j (Z8K j9F (Z8K j9D Z94))))))))
noncomputable def j0J (aB:List Int) (w1:Bool) (w0:qS) (g0:qS) (k0:Bool->Res):Res:=
 j2l g0 1 λ(r:Int) (a2:qS)=>
  j1v a2 1 λ(r1:Int)=>
   bif decide (r1<0) then
    k0 false
   else
    bif (r1 != r) then
     k0 false
    else
     j15 aB λ(r2:List Int)=>
      j0D r2 λ(r3:qS) (r4:Bool)=>
       j1o r3 w0 λ(r5:Bool)=>
        bif !r5 then
         k0 false
        else
         bif !(r4==w1) then
          k0 false
         else
          j1v a2 1 λ(r6:Int)=>
           bif decide (r6<0) then
            k0 false
           else
            bif (r6 != r) then
             k0 false
            else
             k0 true
noncomputable def j2c:Z1q Unit:=λσ k=>rdN σ 93<|rd1 σ 0 y0 .S λaB=>rdT σ 3 (pB 3)<|rdO σ 4 λw1=>rdT σ 6 (pB 6)<|rdB σ 3 y18 [.O,.O,.O,.O] λa w0=>rdB σ 6 y18 [.O,.O,.O,.O] λa1 g0=>j0J aB w1 w0 g0 (λ(t2:Bool)=>k .ret (mkS 93 93 [(2,vB t2)] []))
theorem j6Q {W0:Base} {M:Nat->Prop} (hnp:W0.np<=0):Z22 Try.prog W0 M (cAt 2047 (bo Try.f3)) j2c:=j1J follows j01 j4H hnp [] oN ([],[]) [] ([2],[]) λσ k _ h=>rN h λhn h=>rV h λaB h0 h=>rT h λh3 h=>rV h λw1 h4 h=>rT h λh6 h=>rB h λa w0 hb3 h=>rB h λa1 g0 hb6 h=>⟨_,Z9m (m:=93) hn (sC h0 (sC h3 (sC h4 (sC h6 sN)))) (bC hb3 (bC hb6 bN)),.trans (by delta j0J j5y j5x j4m j3K j4S;refine gz j2l λ_ e=> ?_;rewrite [<-e];refine gz j1v λ_ e=> ?_;rewrite [<-e];refine gz j15 λ_ e=> ?_;rewrite [<-e];refine gz j0D λ_ e=> ?_;rewrite [<-e];refine gz j1o λ_ e=> ?_;rewrite [<-e];kernel_rfl) h⟩
noncomputable def j14 (aB:List Int) (k0:Bool->Res):Res:=
 bif decide ((nI (List.length aB))>1048576) then
  k0 true
 else
  j15 aB λ(r:List Int)=>
   j1e r λ(r1:qS) (r2:Bool)=>
    j15 aB λ(r3:List Int)=>
     j0D r3 λ(r4:qS) (r5:Bool)=>
      j1o r4 r1 λ(r6:Bool)=>
       bif !r6 then
        k0 false
       else
        bif !(r5==r2) then
         k0 false
        else
         j15 aB λ(r7:List Int)=>
          j3U r3 r7 λ(r8:Bool)=>
           bif !r8 then
            k0 false
           else
            j31 r3 1 λ(r9:Int) (a:List Int)=>
             bif decide (r9<0) then
              k0 false
             else
              j1o r4 r1 λ(r10:Bool)=>
               bif !r10 then
                k0 false
               else
                bif !(r5==r2) then
                 k0 false
                else
                 j0J aB r2 r1 r4 λ(t:Bool)=>
                  k0 t
noncomputable def j0O:Sig Unit:=⟨[.borrow y0 false],[false],λvals ext k=>av vals y0 λaB vals=>nl vals<|nl ext<|j14 aB (λ(r0:Bool)=>k [wB r0] [] [])⟩
theorem j7t:Z1p Try.prog 3 j0O:=j05 (np:=0) follows j01 j4H [j2c] (oI 2047 0 (j6Q) oN) false Try.func3 λ_ _ k _ h=>aV h λ_ _ _ _ _ h=>nL h λ_ h=>nL h λ_ h=>by subst_vars;exact .trans (by delta j14 j4m j5A j3K j4S j64 j56 j2c;refine gz j15 λ_ e=> ?_;rewrite [<-e];refine gz j1e λ_ e=> ?_;rewrite [<-e];refine gz j0D λ_ e=> ?_;rewrite [<-e];refine gz j1o λ_ e=> ?_;rewrite [<-e];refine gz j3U λ_ e=> ?_;rewrite [<-e];refine gz j31 λ_ e=> ?_;rewrite [<-e];refine gz j0J λ_ e=> ?_;rewrite [<-e];kernel_rfl) h
end Go.PI.G
namespace Go.PI.G
open Go Go.PI
abbrev V:=Int×Int×ByteArray
theorem jbq (n:Int):wu8 n=n % 256:=by
 unfold wu8 IntKind.wrap
 simp [IntKind.bits,IntKind.signed]
theorem j0M {n:Int} (h:0<=n/\n<256):wu8 n=n:=by rw [jbq];omega
theorem j0w (s:ByteArray):(Z1e s).length=s.size:=by unfold Z1e;simp
def isB (l:List Int):Prop:=∀ x∈l,0<=x/\x<256
theorem j9c (s:ByteArray):isB (Z1e s):=by
 intro x hx
 unfold Z1e at hx
 obtain ⟨b,_,rfl⟩:=List.mem_map.1 hx
 have:=UInt8.toNat_lt b
 omega
theorem j5v (s:ByteArray):Z34 (Z1e s)=s:=by
 unfold Z34 Z1e
 rw [List.map_map]
 have:(λb:UInt8=>b)=(λn:Int=>UInt8.ofNat n.toNat) ∘ λb:UInt8=>(b.toNat:Int):=by
  funext b;simp
 rw [<-this]
 simp
theorem j5I {l:List Int} (h:isB l):Z1e (Z34 l)=l:=by
 unfold Z34 Z1e
 simp only [List.map_map]
 have:l.map ((λb:UInt8=>(b.toNat:Int)) ∘ λn:Int=>UInt8.ofNat n.toNat)=l.map id:=by
  refine List.map_congr_left λx hx=> ?_
  have:=h x hx
  simp only [Function.comp,id]
  rw [UInt8.toNat_ofNat']
  omega
 rw [this,List.map_id]
theorem j1R (a b:ByteArray):sEq a b=true↔a=b:=by
 unfold sEq
 rw [beq_iff_eq]
 constructor
 ·intro h
  rw [ByteArray.ext_iff]
  have h1:a.toList=a.data.toList:=by rw [ByteArray.toList_eq]
  have h2:b.toList=b.data.toList:=by rw [ByteArray.toList_eq]
  rw [h1,h2] at h
  exact Array.toList_inj.1 h
 ·rintro rfl;rfl
theorem jbE (a b:ByteArray):sNe a b=false↔a=b:=by
 unfold sNe
 rw [Bool.not_eq_false']
 exact j1R a b
theorem jbx {l m:List Int} (hl:isB l) (hm:isB m) (h:Z34 l=Z34 m):l=m:=by
 rw [<-j5I hl,h,j5I hm]
def jbk (n:Int):Bool:=decide (-1099511627775<=n/\n<=1099511627775)
def j0g (v:V):Bool:=
 bif v.1==0 then (v.2.1==0)&&sEq v.2.2 eS
 else bif v.1==1 then ((v.2.1==0)||(v.2.1==1))&&sEq v.2.2 eS
 else bif v.1==2 then jbk v.2.1&&sEq v.2.2 eS
 else bif v.1==3 then (v.2.1==0)&&decide (nI v.2.2.size<=30)
 else false
theorem jcg (x:Int):decide (0<=x/\x<=1)=((x==0)||(x==1)):=by
 by_cases h:0<=x/\x<=1
 ·rw [decide_eq_true h]
  have:x=0\/x=1:=by omega
  rcases this with rfl | rfl<;>rfl
 ·rw [decide_eq_false h]
  have h1:(x==0)=false:=by simp;omega
  have h2:(x==1)=false:=by simp;omega
  rw [h1,h2];rfl
theorem j0u {v:V} (h:j0g v=true):v=(0,0,eS)\/(∃ n,(n=0\/n=1)/\v=(1,n,eS))\/(∃ n,(-1099511627775<=n/\n<=1099511627775)/\v=(2,n,eS))\/∃ s:ByteArray,s.size<=30/\v=(3,0,s):=by
 obtain ⟨t,n,s⟩:=v
 unfold j0g at h
 simp only at h
 cases h0:t==0
 ·cases h1:t==1
  ·cases h2:t==2
   ·cases h3:t==3
    ·rw [h0,h1,h2,h3] at h;cases h
    ·rw [h0,h1,h2,h3] at h
     simp only [cond_false,cond_true,Bool.and_eq_true,beq_iff_eq,decide_eq_true_eq] at h h3
     obtain ⟨rfl,h⟩:=h
     subst h3
     exact .inr (.inr (.inr ⟨s,by unfold nI at h;omega,rfl⟩))
   ·rw [h0,h1,h2] at h
    simp only [cond_false,cond_true,Bool.and_eq_true,beq_iff_eq] at h h2
    obtain ⟨h,hs⟩:=h
    rw [j1R] at hs
    subst hs;subst h2
    exact .inr (.inr (.inl ⟨n,of_decide_eq_true h,rfl⟩))
  ·rw [h0,h1] at h
   simp only [cond_false,cond_true,Bool.and_eq_true,Bool.or_eq_true,beq_iff_eq] at h h1
   obtain ⟨h,hs⟩:=h
   rw [j1R] at hs
   subst hs;subst h1
   exact .inr (.inl ⟨n,h,rfl⟩)
 ·rw [h0] at h
  simp only [cond_true,Bool.and_eq_true,beq_iff_eq] at h h0
  obtain ⟨h,hs⟩:=h
  rw [j1R] at hs
  subst hs;subst h0;subst h
  exact .inl rfl
theorem jcn {v:V} (h:j0g v=true):v.2.2.size<=30:=by
 rcases j0u h with rfl | ⟨n,_,rfl⟩ | ⟨n,_,rfl⟩ | ⟨s,hs,rfl⟩
 ·show (0:Nat)<=30;omega
 ·show (0:Nat)<=30;omega
 ·show (0:Nat)<=30;omega
 ·exact hs
def be (n:Nat):Nat->List Int
 | 0=>[]
 | s+1=>((n / 256 ^ s % 256:Nat):Int)::be n s
theorem j8n (n:Nat):(s:Nat)->(be n s).length=s
 | 0=>rfl
 | s+1=>by simp [be,j8n n s]
theorem jbZ (n:Nat):(s:Nat)->isB (be n s)
 | 0=>by intro x hx;cases hx
 | s+1=>by
  intro x hx
  rcases List.mem_cons.1 hx with rfl | hx
  ·omega
  ·exact jbZ n s x hx
theorem j1I {l m:List Int} (hl:isB l) (hm:isB m):isB (l++m):=λx hx=>(List.mem_append.1 hx).elim (hl x) (hm x)
theorem j0A {x:Int} {l:List Int} (hx:0<=x/\x<256) (hl:isB l):isB (x::l):=λy hy=>(List.mem_cons.1 hy).elim (λh=>h ▸ hx) (hl y)
theorem j60:isB []:=λ_ h=>by cases h
noncomputable def wB (v:V):List Int:=
 bif v.1==1 then [1,v.2.1]
 else bif v.1==2 then 2::(bif decide (v.2.1<0) then 1 else 0)::be v.2.1.natAbs 6
 else bif v.1==3 then 3::nI v.2.2.size::Z1e v.2.2
 else [0]
noncomputable def j10 (l:List V):List Int:=nI l.length::l.flatMap wB
theorem j7Q {v:V} (h:j0g v=true):(wB v).length<=32:=by
 rcases j0u h with rfl | ⟨n,_,rfl⟩ | ⟨n,_,rfl⟩ | ⟨s,hs,rfl⟩
 ·show (1:Nat)<=32;omega
 ·show (2:Nat)<=32;omega
 ·show (2::(bif decide (n<0) then 1 else 0)::be n.natAbs 6).length<=32
  simp [j8n]
 ·show (3::nI s.size::Z1e s).length<=32
  simp [j0w];omega
theorem jco {v:V} (h:j0g v=true):isB (wB v):=by
 rcases j0u h with rfl | ⟨n,hn,rfl⟩ | ⟨n,_,rfl⟩ | ⟨s,hs,rfl⟩
 ·exact j0A (by omega) j60
 ·exact j0A (by omega) (j0A (x:=n) (by omega) j60)
 ·refine j0A (x:=2) (by omega) (j0A ?_ (jbZ _ _))
  cases decide (n<0)<;>simp
 ·exact j0A (x:=3) (by omega) (j0A (x:=nI s.size) (by unfold nI;omega) (j9c s))
theorem jbg:(l:List V)->(∀ v∈l,j0g v=true)->(l.flatMap wB).length<=32 * l.length
 | [],_=>by simp
 | v::l,h=>by
  have h1:=j7Q (h v (by simp))
  have h2:=jbg l λv hv=>h v (List.mem_cons_of_mem _ hv)
  simp only [List.flatMap_cons,List.length_append,List.length_cons]
  omega
theorem jbf:(l:List V)->(∀ v∈l,j0g v=true)->isB (l.flatMap wB)
 | [],_=>j60
 | v::l,h=>by
  rw [List.flatMap_cons]
  exact j1I (jco (h v (by simp))) (jbf l λv hv=>h v (List.mem_cons_of_mem _ hv))
theorem jbn {l:List V} (hl:l.length<=255) (h:∀ v∈l,j0g v=true):isB (j10 l):=j0A (by unfold nI;omega) (jbf l h)
end Go.PI.G
namespace Go.PI.G
open Go Go.PI Go.Proofs
theorem j3f (x lo hi:Int) (k:Bool->Res):j0e x lo hi k=k (decide (lo<=x/\x<=hi)):=by
 unfold j0e
 by_cases h:x>=lo
 ·rw [decide_eq_true h,cond_true]
  congr 1
  exact decide_eq_decide.2 (by omega)
 ·rw [decide_eq_false h,cond_false]
  congr 1
  exact (decide_eq_false (by omega)).symm
theorem jca (n:Int) (k:Bool->Res):j7B n k=k (jbk n):=j3f n _ _ k
theorem j7X (v:V) (k:Bool->Res):j2H v k=k (j0g v):=by
 unfold j2H j0g
 cases v.1==0
 ·cases v.1==1
  ·cases v.1==2
   ·cases v.1==3
    ·rfl
    ·cases v.2.1==0<;>rfl
   ·rw [cond_false,cond_false,cond_true,jca]
    cases jbk v.2.1<;>rfl
  ·cases v.2.1==0
   ·cases v.2.1==1<;>rfl
   ·rfl
 ·cases v.2.1==0<;>rfl
theorem j9O (v:V) (k:Bool->Res):j3i v k=k (j0g v):=by
 unfold j3i j0g
 simp only [j3f,jcg]
 cases v.1==0
 ·cases v.1==1
  ·cases v.1==2
   ·cases v.1==3
    ·rfl
    ·cases v.2.1==0<;>rfl
   ·rw [cond_false,cond_false,cond_true,cond_false,cond_false,cond_true]
    show (bif jbk v.2.1 then _ else _)=_
    cases jbk v.2.1<;>rfl
  ·cases v.2.1==0
   ·cases v.2.1==1<;>rfl
   ·rfl
 ·cases v.2.1==0<;>rfl
end Go.PI.G
namespace Go.PI.G
open Go Go.PI
def msr:(τ:Ty)->El τ->Nat
 | .str,s=>ByteArray.size s
 | .slice e,l=>List.length (α:=El e) l+(List.map (msr e) l).sum
 | .pair a b,x=>msr a x.1+msr b x.2
 | .int _,_=>0
 | .bool,_=>0
 | .unit,_=>0
def wgt:(τ:Ty)->El τ->Nat
 | .str,_=>1
 | .slice e,l=>(List.map (wgt e) l).sum
 | .pair a b,x=>wgt a x.1+wgt b x.2
 | .int _,_=>1
 | .bool,_=>1
 | .unit,_=>0
def j0l:(τ:Ty)->El τ->Nat
 | .slice e,l=>(List.map (wgt e) l).sum
 | .pair a b,x=>j0l a x.1+j0l b x.2
 | .str,_=>0
 | .int _,_=>0
 | .bool,_=>0
 | .unit,_=>0
def j2g:Ty->Nat
 | .slice e=>j2g e
 | .pair a b=>j2g a+j2g b
 | .unit=>0
 | _=>1
theorem ja7 {α:Type} (f g:α->Nat) (c:Nat) (h:∀ x,f x<=(g x+1) * c):(l:List α)->(l.map f).sum<=(l.length+(l.map g).sum) * c
 | []=>by simp
 | x::l=>by
  have h1:=h x
  have h2:=ja7 f g c h l
  simp only [List.map_cons,List.sum_cons,List.length_cons]
  have:(l.length+1+(g x+(l.map g).sum)) * c=(g x+1) * c+(l.length+(l.map g).sum) * c:=by
   rw [<-Nat.add_mul];congr 1;omega
  omega
theorem jaa:(τ:Ty)->(x:El τ)->wgt τ x<=(msr τ x+1) * j2g τ
 | .str,_=>by simp [wgt,j2g]
 | .int _,_=>by simp [wgt,j2g]
 | .bool,_=>by simp [wgt,j2g]
 | .unit,_=>by simp [wgt]
 | .pair a b,x=>by
  have h1:=jaa a x.1
  have h2:=jaa b x.2
  simp only [wgt,msr,j2g,Nat.mul_add]
  have e1:(msr a x.1+1) * j2g a<=(msr a x.1+msr b x.2+1) * j2g a:=Nat.mul_le_mul_right _ (by omega)
  have e2:(msr b x.2+1) * j2g b<=(msr a x.1+msr b x.2+1) * j2g b:=Nat.mul_le_mul_right _ (by omega)
  omega
 | .slice e,l=>by
  have h1:=ja7 (wgt e) (msr e) (j2g e) (jaa e) l
  simp only [wgt,msr,j2g]
  have e1:(List.length (α:=El e) l+(List.map (msr e) l).sum) * j2g e<=(List.length (α:=El e) l+(List.map (msr e) l).sum+1) * j2g e:=Nat.mul_le_mul_right _ (by omega)
  exact Nat.le_trans h1 e1
theorem j7D:(τ:Ty)->(x:El τ)->j0l τ x<=wgt τ x
 | .str,_=>Nat.zero_le _
 | .int _,_=>Nat.zero_le _
 | .bool,_=>Nat.zero_le _
 | .unit,_=>Nat.le_refl _
 | .pair a b,x=>Nat.add_le_add (j7D a x.1) (j7D b x.2)
 | .slice e,l=>Nat.le_refl _
theorem j0r {a b:Ty} {x:El (.pair a b)}:msr a x.1<=msr (.pair a b) x:=Nat.le_add_right _ _
theorem j03 {a b:Ty} {x:El (.pair a b)}:msr b x.2<=msr (.pair a b) x:=Nat.le_add_left _ _
noncomputable def dgt (x:Int):ByteArray:=Z34 [wu8 (Z8o (48+x))]
theorem j6M (x:Int):(dgt x).size=1:=rfl
noncomputable def j7S (n:Nat):ByteArray:=if h:n<10 then dgt n else j7S (n / 10)++dgt ((n % 10:Nat):Int)
termination_by n
decreasing_by omega
noncomputable def mT (k:Int):ByteArray:=(⟨#[109]⟩:ByteArray)++j7S k.toNat
noncomputable def mk:(τ:Ty)->El τ->Int->El τ
 | .str,_,k=>mT k
 | .slice e,l,k=>mkL (wgt e) (mk e) l k
 | .pair a b,x,k=>(mk a x.1 k,mk b x.2 (k+(wgt a x.1:Int)))
 | .int .u8,_,k=>wu8 k
 | .int _,_,k=>k
 | .bool,_,k=>(Int.tmod k 3==0)
 | .unit,x,_=>x
noncomputable def mkT:(τ:Ty)->El τ->Int->El τ
 | .slice e,l,k=>mkL (wgt e) (mk e) l k
 | .pair a b,x,k=>(mkT a x.1 k,mkT b x.2 (k+(j0l a x.1:Int)))
 | .str,x,_=>x
 | .int _,x,_=>x
 | .bool,x,_=>x
 | .unit,x,_=>x
theorem jcc (e:Ty) (l:List (El e)):msr (.slice e) l=l.length+(l.map (msr e)).sum:=rfl
theorem j2n {e:Ty} {l:List (El e)} {n:Nat} (h:msr (.slice e) l<=n):l.length<=n:=by
 have:msr (.slice e) l=l.length+(l.map (msr e)).sum:=rfl
 omega
theorem jbB {e:Ty} {l:List (El e)} {n:Nat} (h:msr (.slice e) l<=n) {x:El e} (hx:x∈l):msr e x<=n:=by
 have h1:msr (.slice e) l=l.length+(l.map (msr e)).sum:=rfl
 have:=Z8l (msr e) l x hx
 omega
theorem jaJ {τ:Ty} {x:El τ} (hw:j2g τ<=200) (h:msr τ x<=1048576):wgt τ x<=209715400:=by
 have h1:=jaa τ x
 have h2:(msr τ x+1) * j2g τ<=1048577 * 200:=Nat.mul_le_mul (by omega) hw
 omega
theorem j2b (a b:Ty) (x:El (.pair a b)):wgt (.pair a b) x=wgt a x.1+wgt b x.2:=rfl
theorem j3d (k:IntKind) (x:El (.int k)):wgt (.int k) x=1:=rfl
theorem j2a (x:El .bool):wgt .bool x=1:=rfl
theorem j3e (x:El .str):wgt .str x=1:=rfl
theorem j35 (a b:Ty) (x:El (.pair a b)) (k:Int):mk (.pair a b) x k=(mk a x.1 k,mk b x.2 (k+(wgt a x.1:Int))):=rfl
theorem j22 (e:Ty) (l:El (.slice e)) (k:Int):mk (.slice e) l k=mkL (wgt e) (mk e) l k:=rfl
theorem j3Z (x:El (.int .i64)) (k:Int):mk (.int .i64) x k=k:=rfl
theorem j5u (x:El (.int .u8)) (k:Int):mk (.int .u8) x k=wu8 k:=rfl
theorem j34 (x:El .bool) (k:Int):mk .bool x k=(Int.tmod k 3==0):=rfl
theorem j40 (x:El .str) (k:Int):mk .str x k=mT k:=rfl
theorem j0d (a b:Ty) (x:El (.pair a b)) (k:Int):mkT (.pair a b) x k=(mkT a x.1 k,mkT b x.2 (k+(j0l a x.1:Int))):=rfl
theorem j2B (e:Ty) (l:El (.slice e)) (k:Int):mkT (.slice e) l k=mkL (wgt e) (mk e) l k:=rfl
theorem j4j (i:IntKind) (x:El (.int i)) (k:Int):mkT (.int i) x k=x:=rfl
theorem j3k (x:El .bool) (k:Int):mkT .bool x k=x:=rfl
theorem j4k (x:El .str) (k:Int):mkT .str x k=x:=rfl
theorem j06 (a b:Ty) (x:El (.pair a b)):j0l (.pair a b) x=j0l a x.1+j0l b x.2:=rfl
theorem j0j (i:IntKind) (x:El (.int i)):j0l (.int i) x=0:=rfl
theorem j0b (x:El .bool):j0l .bool x=0:=rfl
theorem j0k (x:El .str):j0l .str x=0:=rfl
theorem j8E {α:Type} (z:α) (l:List α) (i:Nat) (v:α) (h:i<l.length):nth z (upd l (i:Int) v) (i:Int)=v:=by
 rw [Z9h,Z9a _ _ _ (by simpa using h)];simp
theorem j8J {α:Type} (l:List α) (i:Int) (u v:α):upd (upd l i u) i v=upd l i v:=by
 unfold upd;simp
theorem j8I {α:Type} (l:List α) (i:Int) (v:α):(upd l i v).length=l.length:=by unfold upd;simp
end Go.PI.G
namespace Go.PI.G
open Go Go.PI
theorem j0c {i n:Nat} (h:i<n):inb (i:Int) n=true:=Z9k (by omega) (by omega)
theorem j04 {n:Int} (h: -9223372036854775808<=n/\n<9223372036854775808):Z8o n=n:=Z9j h.1 h.2
theorem jcI (n:Nat):Int.tdiv (n:Int) 10=((n / 10:Nat):Int):=by
 rw [Int.tdiv_eq_ediv_of_nonneg (by omega)];omega
theorem jcJ (n:Nat):Int.tmod (n:Int) 10=((n % 10:Nat):Int):=by
 rw [Int.tmod_eq_emod_of_nonneg (by omega)];omega
theorem jao {n:Nat} (h:n<10):j7S n=dgt n:=by rw [j7S,dif_pos h]
theorem jbz {n:Nat} (h:¬ n<10):j7S n=j7S (n / 10)++dgt ((n % 10:Nat):Int):=by rw [j7S,dif_neg h]
theorem jaz:∀ (d n:Nat),n<10 ^ (d+1)->(j7S n).size<=d+1
 | 0,n,h=>by rw [jao (by omega),j6M];exact Nat.le_refl _
 | d+1,n,h=>by
  by_cases h1:n<10
  ·rw [jao h1,j6M];omega
  ·rw [jbz h1,ByteArray.size_append,j6M]
   have:n / 10<10 ^ (d+1):=Nat.div_lt_of_lt_mul (by rw [Nat.pow_succ] at h;omega)
   have:=jaz d (n / 10) this
   omega
theorem jd5 (s:ByteArray):s++eS=s:=by
 show s++ByteArray.empty=s
 simp
end Go.PI.G
