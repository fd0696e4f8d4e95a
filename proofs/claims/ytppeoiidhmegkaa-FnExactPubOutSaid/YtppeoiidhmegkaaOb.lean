/-
  Program's code interpreted over typed values; printed texts; plain laws. No conditions.
-/
import Derived.Test.YtppeoiidhmegkaaPc
import Derived.Test.YtppeoiidhmegkaaOa
set_option linter.unusedVariables false
set_option maxRecDepth 100000
namespace Go.PI.G
open Go Go.PI Go.Proofs
open Go.Code (pl pr)
noncomputable def j0a (a:qL) (left:Int) (i:Int) (rec:Int->Int->Res) (k0:Int->Res) (k1:Unit->Res):Res:=
 bif decide (i<(nI (List.length a))) then
  bif inb i (List.length a) then
   bif decide ((Z8o (left-(nI (ByteArray.size (nth eS a i)))))<0) then
    k1 ()
   else
    rec (Z8o (left-(nI (ByteArray.size (nth eS a i))))) (Z8o (i+1))
  else none
 else
  k0 left
noncomputable def j1k (a:qL):(Int×Int)->(Int×Int->Res)->((Int->Res)×(Unit->Res))->Res:=λv rec q=>j0a a v.1 v.2 (λleft i=>rec (left,i)) q.1 q.2
noncomputable def j0w (a:qL) (n:Nat) (left:Int) (i:Int) (k0:Int->Res) (k1:Unit->Res):Res:=Z14 (j1k a) n (left,i) (k0,k1)
noncomputable def j1r:Z1q Unit:=λσ k=>rdN σ 28<|rd1 σ 0 y1 .S λa=>rdI σ 1 λleft=>rdI σ 5 λi=>j0w a Z12 left i (λ(left1:Int)=>k (.exit 0) (mkS 28 28 [(1,vI left1)] [])) (λ(_:Unit)=>k .ret (mkS 28 28 [(4,vI (-1))] []))
theorem j28 {W0:Base} {M:Nat->Prop} (hnp:W0.np<=0):Z22 Try.prog W0 M (cAt 122 (bo Try.f70)) j1r:=j0Z follows j00 Z94 hnp [] oN [0,1,5] [] ([],[]) [(0,[1],[])] ([4],[]) λσ k _ h=>rN h λhn h=>rV h λa h0 h=>rV h λleft h1 h=>rV h λi h5 h=>⟨_,Z9m (m:=28) hn (sC h0 (sC h1 (sC h5 sN))) bN,.trans (Z88 (λv:Int×Int=>(mkS 28 28 [(0,v1 y1 a .S),(1,vI v.1),(5,vI v.2)] [])) (j1k a) (λ(k:Z6O Unit)=>(((λ(left1:Int)=>k (.exit 0) (mkS 28 28 [(1,vI left1)] [])),(λ(_:Unit)=>k .ret (mkS 28 28 [(4,vI (-1))] []))):(Int->Res)×(Unit->Res))) (λv rec k=>by kernel_rfl) Z12 (left,i) k) h⟩
noncomputable def j0S (a:qL) (left:Int) (k0:Int->Res):Res:=
 bif decide ((Z8o (left-(nI (List.length a))))<0) then
  k0 (-1)
 else
  j0w a Z12 (Z8o (left-(nI (List.length a)))) 0
   (λ(left1:Int)=>
    k0 left1)
   (λ(_:Unit)=>
    k0 (-1))
noncomputable def j2p:Sig Unit:=⟨[.look y1 false,.look tI false],[false],λvals ext k=>av vals y1 λa vals=>av vals tI λleft vals=>nl vals<|nl ext<|j0S a left (λ(r0:Int)=>k [wI r0] [] [])⟩
theorem j2k:Z1p Try.prog 70 j2p:=j08 (np:=0) follows j00 Z94 [j1r] (oI 122 0 (j28) oN) false Try.func70 λ_ _ k _ h=>aV h λ_ _ _ _ _ h=>aV h λ_ _ _ _ _ h=>nL h λ_ h=>nL h λ_ h=>by subst_vars;exact .trans (by kernel_rfl) h
noncomputable def j0b (a:qL) (out:qL) (i:Int) (rec:qL->Int->Res) (k0:qL->Res):Res:=
 bif decide (i<(nI (List.length a))) then
  bif inb i (List.length a) then
   bif inb i (List.length out) then
    rec (upd out i (nth eS a i)) (Z8o (i+1))
   else none
  else none
 else
  k0 out
noncomputable def j0J (a:qL):(qL×Int)->(qL×Int->Res)->((qL->Res))->Res:=λv rec q=>j0b a v.1 v.2 (λout i=>rec (out,i)) q
noncomputable def j1A (a:qL) (n:Nat) (out:qL) (i:Int) (k0:qL->Res):Res:=Z14 (j0J a) n (out,i) (k0)
noncomputable def j1s:Z1q Unit:=λσ k=>rdN σ 22<|rd1 σ 0 y1 .S λa=>rd1 σ 3 y1 .O λout=>rdI σ 4 λi=>j1A a Z12 out i (λ(out1:qL)=>k (.exit 0) (mkS 22 22 [(3,v1 y1 out1 .O)] []))
theorem j29 {W0:Base} {M:Nat->Prop} (hnp:W0.np<=0):Z22 Try.prog W0 M (cAt 58 (bo Try.f73)) j1s:=j0Z follows j00 Z94 hnp [] oN [0,3,4] [] ([],[]) [(0,[3],[])] ([],[]) λσ k _ h=>rN h λhn h=>rV h λa h0 h=>rV h λout h3 h=>rV h λi h4 h=>⟨_,Z9m (m:=22) hn (sC h0 (sC h3 (sC h4 sN))) bN,.trans (Z88 (λv:qL×Int=>(mkS 22 22 [(0,v1 y1 a .S),(3,v1 y1 v.1 .O),(4,vI v.2)] [])) (j0J a) (λ(k:Z6O Unit)=>(((λ(out1:qL)=>k (.exit 0) (mkS 22 22 [(3,v1 y1 out1 .O)] []))):(qL->Res))) (λv rec k=>by kernel_rfl) Z12 (out,i) k) h⟩
noncomputable def j0T (a:qL) (k0:qL->Res):Res:=
 bif Z8m (nI (List.length a)) (nI (List.length a)) then
  j1A a Z12 (Z7Y (nI (List.length a)) eS) 0 λ(out:qL)=>
   k0 out
 else none
noncomputable def j2q:Sig Unit:=⟨[.borrow y1 false],[false],λvals ext k=>av vals y1 λa vals=>nl vals<|nl ext<|j0T a (λ(r0:qL)=>k [w1 y1 r0 .O] [] [])⟩
theorem j2l:Z1p Try.prog 73 j2q:=j08 (np:=0) follows j00 Z94 [j1s] (oI 58 0 (j29) oN) false Try.func73 λ_ _ k _ h=>aV h λ_ _ _ _ _ h=>nL h λ_ h=>nL h λ_ h=>by subst_vars;exact .trans (by kernel_rfl) h
noncomputable def j09 (a:qL) (b:qL) (i:Int) (rec:Int->Res) (k0:Unit->Res) (k1:Unit->Res):Res:=
 bif decide (i<(nI (List.length a))) then
  bif inb i (List.length a) then
   bif inb i (List.length b) then
    bif sNe (nth eS a i) (nth eS b i) then
     k1 ()
    else
     rec (Z8o (i+1))
   else none
  else none
 else
  k0 ()
noncomputable def j1j (a:qL) (b:qL):Int->(Int->Res)->((Unit->Res)×(Unit->Res))->Res:=λv rec q=>j09 a b v (λi=>rec (i)) q.1 q.2
noncomputable def j0X (a:qL) (b:qL) (n:Nat) (i:Int) (k0:Unit->Res) (k1:Unit->Res):Res:=Z14 (j1j a b) n (i) (k0,k1)
noncomputable def j1q:Z1q Unit:=λσ k=>rdN σ 26<|rd1 σ 0 y1 .S λa=>rd1 σ 1 y1 .S λb=>rdI σ 5 λi=>j0X a b Z12 i (λ(_:Unit)=>k (.exit 0) (mkS 26 26 [] [])) (λ(_:Unit)=>k .ret (mkS 26 26 [(4,vB false)] []))
theorem j27 {W0:Base} {M:Nat->Prop} (hnp:W0.np<=0):Z22 Try.prog W0 M (cAt 58 (bo Try.f80)) j1q:=j0Z follows j00 Z94 hnp [] oN [0,1,5] [] ([],[]) [(0,[],[])] ([4],[]) λσ k _ h=>rN h λhn h=>rV h λa h0 h=>rV h λb h1 h=>rV h λi h5 h=>⟨_,Z9m (m:=26) hn (sC h0 (sC h1 (sC h5 sN))) bN,.trans (Z88 (λv:Int=>(mkS 26 26 [(0,v1 y1 a .S),(1,v1 y1 b .S),(5,vI v)] [])) (j1j a b) (λ(k:Z6O Unit)=>(((λ(_:Unit)=>k (.exit 0) (mkS 26 26 [] [])),(λ(_:Unit)=>k .ret (mkS 26 26 [(4,vB false)] []))):(Unit->Res)×(Unit->Res))) (λv rec k=>by kernel_rfl) Z12 (i) k) h⟩
noncomputable def j0R (a:qL) (b:qL) (k0:Bool->Res):Res:=
 bif ((nI (List.length a)) != (nI (List.length b))) then
  k0 false
 else
  j0X a b Z12 0
   (λ(_:Unit)=>
    k0 true)
   (λ(_:Unit)=>
    k0 false)
noncomputable def j2o:Sig Unit:=⟨[.look y1 false,.look y1 false],[false],λvals ext k=>av vals y1 λa vals=>av vals y1 λb vals=>nl vals<|nl ext<|j0R a b (λ(r0:Bool)=>k [wB r0] [] [])⟩
theorem j2j:Z1p Try.prog 80 j2o:=j08 (np:=0) follows j00 Z94 [j1q] (oI 58 0 (j27) oN) false Try.func80 λ_ _ k _ h=>aV h λ_ _ _ _ _ h=>aV h λ_ _ _ _ _ h=>nL h λ_ h=>nL h λ_ h=>by subst_vars;exact .trans (by kernel_rfl) h
noncomputable def j05 (a:qL) (k_:Int) (i:Int) (rec:qL->Int->Int->Res) (k0:qL->Int->Res):Res:=
 bif decide (i<(nI (List.length a))) then
  j0D k_ λ(r:qB)=>
   bif inb i (List.length a) then
    rec (upd a i r) (Z8o (k_+1)) (Z8o (i+1))
   else none
 else
  k0 a k_
noncomputable def j0z:(qL×Int×Int)->(qL×Int×Int->Res)->((qL->Int->Res))->Res:=λv rec q=>j05 v.1 v.2.1 v.2.2 (λa k_ i=>rec (a,k_,i)) q
noncomputable def j0I (n:Nat) (a:qL) (k_:Int) (i:Int) (k0:qL->Int->Res):Res:=Z14 (j0z) n (a,k_,i) (k0)
noncomputable def j1h:Z1q Unit:=λσ k=>rdN σ 20<|rd1 σ 0 y1 .O λa=>rdI σ 1 λk_=>rdI σ 5 λi=>j0I Z12 a k_ i (λ(a1:qL) (k_1:Int)=>k (.exit 0) (mkS 20 20 [(0,v1 y1 a1 .O),(1,vI k_1)] []))
theorem j1Y {W0:Base} {M:Nat->Prop} (hnp:W0.np<=1):Z22 Try.prog W0 M (cAt 26 (bo Try.f81)) j1h:=j0Z follows j00 (Z8K j0L Z94) hnp [] oN [0,1,5] [] ([],[]) [(0,[0,1],[])] ([],[]) λσ k _ h=>rN h λhn h=>rV h λa h0 h=>rV h λk_ h1 h=>rV h λi h5 h=>⟨_,Z9m (m:=20) hn (sC h0 (sC h1 (sC h5 sN))) bN,.trans (Z88 (λv:qL×Int×Int=>(mkS 20 20 [(0,v1 y1 v.1 .O),(1,vI v.2.1),(5,vI v.2.2)] [])) (j0z) (λ(k:Z6O Unit)=>(((λ(a1:qL) (k_1:Int)=>k (.exit 0) (mkS 20 20 [(0,v1 y1 a1 .O),(1,vI k_1)] []))):(qL->Int->Res))) (λv rec k=>by kernel_rfl) Z12 (a,k_,i) k) h⟩
noncomputable def j0C (a:qL) (k_:Int) (k0:Int->qL->Res):Res:=
 j0I Z12 a k_ 0 λ(a1:qL) (k_1:Int)=>
  k0 k_1 a1
noncomputable def j2d:Sig Unit:=⟨[.inout y1 false,.borrow tI false],[false],λvals ext k=>ao vals y1 [.O] λa vals=>av vals tI λk_ vals=>nl vals<|nl ext<|j0C a k_ (λ(r0:Int) (i0:qL)=>k [wI r0] [w1 y1 i0 .O] [])⟩
theorem j26:Z1p Try.prog 81 j2d:=j08 (np:=1) follows j00 (Z8K j0L Z94) [j1h] (oI 26 0 (j1Y) oN) false Try.func81 λ_ _ k _ h=>aO h λ_ _ _ _ h=>aV h λ_ _ _ _ _ h=>nL h λ_ h=>nL h λ_ h=>by subst_vars;exact .trans (by kernel_rfl) h
noncomputable def j04 (a:qL) (k_:Int) (i:Int) (rec:Int->Int->Res) (k0:Int->Res) (k1:Unit->Res):Res:=
 bif decide (i<(nI (List.length a))) then
  bif inb i (List.length a) then
   j0D k_ λ(r:qB)=>
    bif sNe (nth eS a i) r then
     k1 ()
    else
     rec (Z8o (k_+1)) (Z8o (i+1))
  else none
 else
  k0 k_
noncomputable def j0y (a:qL):(Int×Int)->(Int×Int->Res)->((Int->Res)×(Unit->Res))->Res:=λv rec q=>j04 a v.1 v.2 (λk_ i=>rec (k_,i)) q.1 q.2
noncomputable def j0H (a:qL) (n:Nat) (k_:Int) (i:Int) (k0:Int->Res) (k1:Unit->Res):Res:=Z14 (j0y a) n (k_,i) (k0,k1)
noncomputable def j1g:Z1q Unit:=λσ k=>rdN σ 22<|rd1 σ 0 y1 .S λa=>rdI σ 1 λk_=>rdI σ 5 λi=>j0H a Z12 k_ i (λ(k_1:Int)=>k (.exit 0) (mkS 22 22 [(1,vI k_1)] [])) (λ(_:Unit)=>k .ret (mkS 22 22 [(4,vI (-1))] []))
theorem j1X {W0:Base} {M:Nat->Prop} (hnp:W0.np<=0):Z22 Try.prog W0 M (cAt 26 (bo Try.f82)) j1g:=j0Z follows j00 (Z8K j0L Z94) hnp [] oN [0,1,5] [] ([],[]) [(0,[1],[])] ([4],[]) λσ k _ h=>rN h λhn h=>rV h λa h0 h=>rV h λk_ h1 h=>rV h λi h5 h=>⟨_,Z9m (m:=22) hn (sC h0 (sC h1 (sC h5 sN))) bN,.trans (Z88 (λv:Int×Int=>(mkS 22 22 [(0,v1 y1 a .S),(1,vI v.1),(5,vI v.2)] [])) (j0y a) (λ(k:Z6O Unit)=>(((λ(k_1:Int)=>k (.exit 0) (mkS 22 22 [(1,vI k_1)] [])),(λ(_:Unit)=>k .ret (mkS 22 22 [(4,vI (-1))] []))):(Int->Res)×(Unit->Res))) (λv rec k=>by kernel_rfl) Z12 (k_,i) k) h⟩
noncomputable def j0B (a:qL) (k_:Int) (k0:Int->Res):Res:=
 j0H a Z12 k_ 0
  (λ(k_1:Int)=>
   k0 k_1)
  (λ(_:Unit)=>
   k0 (-1))
noncomputable def j2c:Sig Unit:=⟨[.look y1 false,.look tI false],[false],λvals ext k=>av vals y1 λa vals=>av vals tI λk_ vals=>nl vals<|nl ext<|j0B a k_ (λ(r0:Int)=>k [wI r0] [] [])⟩
theorem j25:Z1p Try.prog 82 j2c:=j08 (np:=0) follows j00 (Z8K j0L Z94) [j1g] (oI 26 0 (j1X) oN) false Try.func82 λ_ _ k _ h=>aV h λ_ _ _ _ _ h=>aV h λ_ _ _ _ _ h=>nL h λ_ h=>nL h λ_ h=>by subst_vars;exact .trans (by kernel_rfl) h
end Go.PI.G
namespace Go.PI.G
open Go Go.PI Go.Proofs
open Go.Code (pl pr)
noncomputable def j1a (a:qL) (left:Int) (k0:Int->Res):Res:=
 j0S a left λ(r:Int)=>
  bif decide (r<0) then
   k0 (-1)
  else
   k0 r
noncomputable def j1F:Sig Unit:=⟨[.look y1 true,.look tI false],[false],λvals ext k=>av vals y1 λa vals=>av vals tI λleft vals=>nl vals<|nl ext<|j1a a left (λ(r0:Int)=>k [wI r0] [] [])⟩
theorem j31:Z1p Try.prog 25 j1F:=j08 (np:=0) follows j00 (Z8K j2k Z94) [] oN false Try.func25 λ_ _ k _ h=>aV h λ_ _ _ _ _ h=>aV h λ_ _ _ _ _ h=>nL h λ_ h=>nL h λ_ h=>by subst_vars;exact .trans (by kernel_rfl) h
noncomputable def j0f (a:qL) (k0:qL->Res):Res:=
 j0T a λ(r:qL)=>
  k0 r
noncomputable def j1c:Sig Unit:=⟨[.borrow y1 true],[true],λvals ext k=>av vals y1 λa vals=>nl vals<|nl ext<|j0f a (λ(r0:qL)=>k [⟨y1,true,r0,[.O]⟩] [] [])⟩
theorem j32:Z1p Try.prog 27 j1c:=j08 (np:=0) follows j00 (Z8K j2l Z94) [] oN false Try.func27 λ_ _ k _ h=>aV h λ_ _ _ _ _ h=>nL h λ_ h=>nL h λ_ h=>by subst_vars;exact .trans (by kernel_rfl) h
noncomputable def j0e (a:qL) (b:qL) (k0:Bool->Res):Res:=
 j0R a b λ(r:Bool)=>
  bif !r then
   k0 false
  else
   k0 true
noncomputable def j1b:Sig Unit:=⟨[.look y1 true,.look y1 true],[false],λvals ext k=>av vals y1 λa vals=>av vals y1 λb vals=>nl vals<|nl ext<|j0e a b (λ(r0:Bool)=>k [wB r0] [] [])⟩
theorem j30:Z1p Try.prog 29 j1b:=j08 (np:=0) follows j00 (Z8K j2j Z94) [] oN false Try.func29 λ_ _ k _ h=>aV h λ_ _ _ _ _ h=>aV h λ_ _ _ _ _ h=>nL h λ_ h=>nL h λ_ h=>by subst_vars;exact .trans (by kernel_rfl) h
noncomputable def j0j (a:qL) (k_:Int) (k0:Int->qL->Res):Res:=
 j0C a k_ λ(r:Int) (a1:qL)=>
  k0 r a1
noncomputable def j0U:Sig Unit:=⟨[.inout y1 true,.borrow tI false],[false],λvals ext k=>ao vals y1 [.O] λa vals=>av vals tI λk_ vals=>nl vals<|nl ext<|j0j a k_ (λ(r0:Int) (i0:qL)=>k [wI r0] [⟨y1,true,i0,[.O]⟩] [])⟩
theorem j2H:Z1p Try.prog 30 j0U:=j08 (np:=1) follows j00 (Z8K j26 Z94) [] oN false Try.func30 λ_ _ k _ h=>aO h λ_ _ _ _ h=>aV h λ_ _ _ _ _ h=>nL h λ_ h=>nL h λ_ h=>by subst_vars;exact .trans (by kernel_rfl) h
noncomputable def j0x (a:qL) (k_:Int) (k0:Int->Res):Res:=
 j0B a k_ λ(r:Int)=>
  bif decide (r<0) then
   k0 (-1)
  else
   k0 r
noncomputable def j1l:Sig Unit:=⟨[.look y1 true,.look tI false],[false],λvals ext k=>av vals y1 λa vals=>av vals tI λk_ vals=>nl vals<|nl ext<|j0x a k_ (λ(r0:Int)=>k [wI r0] [] [])⟩
theorem j2G:Z1p Try.prog 31 j1l:=j08 (np:=0) follows j00 (Z8K j25 Z94) [] oN false Try.func31 λ_ _ k _ h=>aV h λ_ _ _ _ _ h=>aV h λ_ _ _ _ _ h=>nL h λ_ h=>nL h λ_ h=>by subst_vars;exact .trans (by kernel_rfl) h
end Go.PI.G
namespace Go.PI.G
open Go Go.PI Go.Proofs
open Go.Code (pl pr)
theorem j17:Fns Try.prog [(25,j1F),(26,j1x),(27,j1c),(28,j10),(29,j1b),(30,j0U),(31,j1l)]:=(Z8K j31 (Z8K j2X (Z8K j32 (Z8K j2W (Z8K j30 (Z8K j2H (Z8K j2G Z94)))))))
noncomputable def j03 (aTable:qB) (w1:Int) (g1:Int) (k_:Int) (aP:qL) (w0:qL) (g0:qL) (k0:Bool->Res):Res:=
 bif decide (k_<0) then
  k0 false
 else
  j0e g0 w0 λ(r:Bool)=>
   bif !r then
    k0 false
   else
    bif (g1 != w1) then
     k0 false
    else
     j0j g0 1 λ(r1:Int) (a3:qL)=>
      j0x a3 1 λ(r2:Int)=>
       bif decide (r2<0) then
        k0 false
       else
        bif (r2 != r1) then
         k0 false
        else
         j0f aP λ(r3:qL)=>
          j0g r3 aTable λ(r4:qL) (r5:Int)=>
           j0e r4 w0 λ(r6:Bool)=>
            bif !r6 then
             k0 false
            else
             bif (r5 != w1) then
              k0 false
             else
              j0x a3 1 λ(r7:Int)=>
               bif decide (r7<0) then
                k0 false
               else
                bif (r7 != r1) then
                 k0 false
                else
                 k0 true
noncomputable def j0v:Z1q Unit:=λσ k=>rdN σ 104<|rdS σ 1 λaTable=>rdT σ 2 (pB 2)<|rdT σ 6 (pB 6)<|rdI σ 7 λw1=>rdT σ 9 (pB 9)<|rdI σ 10 λg1=>rdI σ 11 λk_=>rdB σ 2 y1 [.S] λa aP=>rdB σ 6 y1 [.O] λa1 w0=>rdB σ 9 y1 [.O] λa2 g0=>j03 aTable w1 g1 k_ aP w0 g0 (λ(t4:Bool)=>k .ret (mkS 104 104 [(4,vB t4)] []))
theorem j1L {W0:Base} {M:Nat->Prop} (hnp:W0.np<=0):Z22 Try.prog W0 M (cAt 8191 (bo Try.f5)) j0v:=j3Q follows j00 j17 hnp [] oN ([],[]) [] ([4],[]) λσ k _ h=>rN h λhn h=>rV h λaTable h1 h=>rT h λh2 h=>rT h λh6 h=>rV h λw1 h7 h=>rT h λh9 h=>rV h λg1 h10 h=>rV h λk_ h11 h=>rB h λa aP hb2 h=>rB h λa1 w0 hb6 h=>rB h λa2 g0 hb9 h=>⟨_,Z9m (m:=104) hn (sC h1 (sC h2 (sC h6 (sC h7 (sC h9 (sC h10 (sC h11 sN))))))) (bC hb2 (bC hb6 (bC hb9 bN))),.trans (by delta j03 j1b j0U j1l j1c j10;refine gz j0e λ_ e=> ?_;rewrite [<-e];refine gz j0j λ_ e=> ?_;rewrite [<-e];refine gz j0x λ_ e=> ?_;rewrite [<-e];refine gz j0f λ_ e=> ?_;rewrite [<-e];refine gz j0g λ_ e=> ?_;rewrite [<-e];kernel_rfl) h⟩
noncomputable def j0c (aP:qL) (aTable:qB) (k0:Bool->Res):Res:=
 bif decide ((nI (ByteArray.size aTable))>1048576) then
  k0 true
 else
  j1a aP 1048576 λ(r:Int)=>
   bif decide (r<0) then
    k0 true
   else
    j0f aP λ(r1:qL)=>
     j0F r1 aTable λ(r2:qL) (r3:Int)=>
      j0f aP λ(r4:qL)=>
       j0g r4 aTable λ(r5:qL) (r6:Int)=>
        j0e r5 r2 λ(r7:Bool)=>
         bif !r7 then
          k0 false
         else
          bif (r6 != r3) then
           k0 false
          else
           j0f aP λ(r8:qL)=>
            j0e r4 r8 λ(r9:Bool)=>
             bif !r9 then
              k0 false
             else
              j0j r4 1 λ(r10:Int) (a:qL)=>
               j03 aTable r3 r6 r10 aP r2 r5 λ(t:Bool)=>
                k0 t
noncomputable def j06:Sig Unit:=⟨[.borrow y1 true,.borrow .str false],[false],λvals ext k=>av vals y1 λaP vals=>av vals .str λaTable vals=>nl vals<|nl ext<|j0c aP aTable (λ(r0:Bool)=>k [wB r0] [] [])⟩
theorem j1T:Z1p Try.prog 5 j06:=j08 (np:=0) follows j00 j17 [j0v] (oI 8191 0 (j1L) oN) false Try.func5 λ_ _ k _ h=>aV h λ_ _ _ _ _ h=>aV h λ_ _ _ _ _ h=>nL h λ_ h=>nL h λ_ h=>by subst_vars;exact .trans (by delta j0c j1F j1c j1x j10 j1b j0U j0v;refine gz j1a λ_ e=> ?_;rewrite [<-e];refine gz j0f λ_ e=> ?_;rewrite [<-e];refine gz j0F λ_ e=> ?_;rewrite [<-e];refine gz j0g λ_ e=> ?_;rewrite [<-e];refine gz j0e λ_ e=> ?_;rewrite [<-e];refine gz j0j λ_ e=> ?_;rewrite [<-e];refine gz j03 λ_ e=> ?_;rewrite [<-e];kernel_rfl) h
end Go.PI.G
namespace Go.PI.G
open Go Go.PI
abbrev V:=Int×Int×ByteArray
theorem j1N (s:ByteArray):(Z1e s).length=s.size:=by unfold Z1e;simp
def be (n:Nat):Nat->List Int
 | 0=>[]
 | s+1=>((n / 256 ^ s % 256:Nat):Int)::be n s
noncomputable def wB (v:V):List Int:=
 bif v.1==1 then [1,v.2.1]
 else bif v.1==2 then 2::(bif decide (v.2.1<0) then 1 else 0)::be v.2.1.natAbs 6
 else bif v.1==3 then 3::nI v.2.2.size::Z1e v.2.2
 else [0]
end Go.PI.G
set_option linter.unusedSimpArgs false
namespace Go.PI.G
open Go Go.PI Go.Proofs
theorem j3q (x lo hi:Int) (k:Bool->Res):j0t x lo hi k=k (decide (lo<=x/\x<=hi)):=by
 unfold j0t
 by_cases h:x>=lo
 ·rw [decide_eq_true h,cond_true]
  congr 1
  exact decide_eq_decide.2 (by omega)
 ·rw [decide_eq_false h,cond_false]
  congr 1
  exact (decide_eq_false (by omega)).symm
end Go.PI.G
namespace Go.PI.G
open Go Go.PI
def msr:(τ:Ty)->El τ->Nat
 | .str,s=>ByteArray.size s
 | .slice e,l=>List.length (α:=El e) l+(List.map (msr e) l).sum
 | .pair a b,x=>msr a x.1+msr b x.2
 | .int _,_=>0
 | .bool,_=>0
 | .unit,_=>0
def wgt:(τ:Ty)->El τ->Nat
 | .str,_=>1
 | .slice e,l=>(List.map (wgt e) l).sum
 | .pair a b,x=>wgt a x.1+wgt b x.2
 | .int _,_=>1
 | .bool,_=>1
 | .unit,_=>0
def j0A:(τ:Ty)->El τ->Nat
 | .slice e,l=>(List.map (wgt e) l).sum
 | .pair a b,x=>j0A a x.1+j0A b x.2
 | .str,_=>0
 | .int _,_=>0
 | .bool,_=>0
 | .unit,_=>0
def j0n:Ty->Nat
 | .slice e=>j0n e
 | .pair a b=>j0n a+j0n b
 | .unit=>0
 | _=>1
theorem j2D {α:Type} (f g:α->Nat) (c:Nat) (h:∀ x,f x<=(g x+1) * c):(l:List α)->(l.map f).sum<=(l.length+(l.map g).sum) * c
 | []=>by simp
 | x::l=>by
  have h1:=h x
  have h2:=j2D f g c h l
  simp only [List.map_cons,List.sum_cons,List.length_cons]
  have:(l.length+1+(g x+(l.map g).sum)) * c=(g x+1) * c+(l.length+(l.map g).sum) * c:=by
   rw [<-Nat.add_mul];congr 1;omega
  omega
theorem j2E:(τ:Ty)->(x:El τ)->wgt τ x<=(msr τ x+1) * j0n τ
 | .str,_=>by simp [wgt,j0n]
 | .int _,_=>by simp [wgt,j0n]
 | .bool,_=>by simp [wgt,j0n]
 | .unit,_=>by simp [wgt]
 | .pair a b,x=>by
  have h1:=j2E a x.1
  have h2:=j2E b x.2
  simp only [wgt,msr,j0n,Nat.mul_add]
  have e1:(msr a x.1+1) * j0n a<=(msr a x.1+msr b x.2+1) * j0n a:=Nat.mul_le_mul_right _ (by omega)
  have e2:(msr b x.2+1) * j0n b<=(msr a x.1+msr b x.2+1) * j0n b:=Nat.mul_le_mul_right _ (by omega)
  omega
 | .slice e,l=>by
  have h1:=j2D (wgt e) (msr e) (j0n e) (j2E e) l
  simp only [wgt,msr,j0n]
  have e1:(List.length (α:=El e) l+(List.map (msr e) l).sum) * j0n e<=(List.length (α:=El e) l+(List.map (msr e) l).sum+1) * j0n e:=Nat.mul_le_mul_right _ (by omega)
  exact Nat.le_trans h1 e1
theorem j1o:(τ:Ty)->(x:El τ)->j0A τ x<=wgt τ x
 | .str,_=>Nat.zero_le _
 | .int _,_=>Nat.zero_le _
 | .bool,_=>Nat.zero_le _
 | .unit,_=>Nat.le_refl _
 | .pair a b,x=>Nat.add_le_add (j1o a x.1) (j1o b x.2)
 | .slice e,l=>Nat.le_refl _
noncomputable def dgt (x:Int):ByteArray:=Z34 [wu8 (Z8o (48+x))]
theorem j1D (x:Int):(dgt x).size=1:=rfl
noncomputable def j1U (n:Nat):ByteArray:=if h:n<10 then dgt n else j1U (n / 10)++dgt ((n % 10:Nat):Int)
termination_by n
decreasing_by omega
noncomputable def mT (k:Int):ByteArray:=(⟨#[109]⟩:ByteArray)++j1U k.toNat
noncomputable def mk:(τ:Ty)->El τ->Int->El τ
 | .str,_,k=>mT k
 | .slice e,l,k=>mkL (wgt e) (mk e) l k
 | .pair a b,x,k=>(mk a x.1 k,mk b x.2 (k+(wgt a x.1:Int)))
 | .int .u8,_,k=>wu8 k
 | .int _,_,k=>k
 | .bool,_,k=>(Int.tmod k 3==0)
 | .unit,x,_=>x
noncomputable def mkT:(τ:Ty)->El τ->Int->El τ
 | .slice e,l,k=>mkL (wgt e) (mk e) l k
 | .pair a b,x,k=>(mkT a x.1 k,mkT b x.2 (k+(j0A a x.1:Int)))
 | .str,x,_=>x
 | .int _,x,_=>x
 | .bool,x,_=>x
 | .unit,x,_=>x
theorem j2U (e:Ty) (l:List (El e)):msr (.slice e) l=l.length+(l.map (msr e)).sum:=rfl
theorem j1P {e:Ty} {l:List (El e)} {n:Nat} (h:msr (.slice e) l<=n):l.length<=n:=by
 have:msr (.slice e) l=l.length+(l.map (msr e)).sum:=rfl
 omega
theorem j3H {e:Ty} {l:List (El e)} {n:Nat} (h:msr (.slice e) l<=n) {x:El e} (hx:x∈l):msr e x<=n:=by
 have h1:msr (.slice e) l=l.length+(l.map (msr e)).sum:=rfl
 have:=Z8l (msr e) l x hx
 omega
theorem j2V {τ:Ty} {x:El τ} (hw:j0n τ<=200) (h:msr τ x<=1048576):wgt τ x<=209715400:=by
 have h1:=j2E τ x
 have h2:(msr τ x+1) * j0n τ<=1048577 * 200:=Nat.mul_le_mul (by omega) hw
 omega
theorem j2s (a b:Ty) (x:El (.pair a b)):wgt (.pair a b) x=wgt a x.1+wgt b x.2:=rfl
theorem j2R (k:IntKind) (x:El (.int k)):wgt (.int k) x=1:=rfl
theorem j2r (x:El .bool):wgt .bool x=1:=rfl
theorem j2S (x:El .str):wgt .str x=1:=rfl
theorem j2O (a b:Ty) (x:El (.pair a b)) (k:Int):mk (.pair a b) x k=(mk a x.1 k,mk b x.2 (k+(wgt a x.1:Int))):=rfl
theorem j2n (e:Ty) (l:El (.slice e)) (k:Int):mk (.slice e) l k=mkL (wgt e) (mk e) l k:=rfl
theorem j37 (x:El (.int .i64)) (k:Int):mk (.int .i64) x k=k:=rfl
theorem j3i (x:El (.int .u8)) (k:Int):mk (.int .u8) x k=wu8 k:=rfl
theorem j2N (x:El .bool) (k:Int):mk .bool x k=(Int.tmod k 3==0):=rfl
theorem j38 (x:El .str) (k:Int):mk .str x k=mT k:=rfl
theorem j1I (e:Ty) (l:El (.slice e)) (k:Int):mkT (.slice e) l k=mkL (wgt e) (mk e) l k:=rfl
theorem j2L (i:IntKind) (x:El (.int i)) (k:Int):mkT (.int i) x k=x:=rfl
theorem j2m (x:El .bool) (k:Int):mkT .bool x k=x:=rfl
theorem j2M (x:El .str) (k:Int):mkT .str x k=x:=rfl
theorem j1J (a b:Ty) (x:El (.pair a b)):j0A (.pair a b) x=j0A a x.1+j0A b x.2:=rfl
theorem j15 (i:IntKind) (x:El (.int i)):j0A (.int i) x=0:=rfl
theorem j0O (x:El .bool):j0A .bool x=0:=rfl
theorem j16 (x:El .str):j0A .str x=0:=rfl
theorem j3I {α:Type} (z:α) (l:List α) (i:Nat) (v:α) (h:i<l.length):nth z (upd l (i:Int) v) (i:Int)=v:=by
 rw [Z9h,Z9a _ _ _ (by simpa using h)];simp
theorem j3K {α:Type} (l:List α) (i:Int) (u v:α):upd (upd l i u) i v=upd l i v:=by
 unfold upd;simp
theorem j3J {α:Type} (l:List α) (i:Int) (v:α):(upd l i v).length=l.length:=by unfold upd;simp
end Go.PI.G
namespace Go.PI.G
open Go Go.PI
theorem j3z {left:Int} (h:0<=left):szR left 0=left:=by unfold szR;rw [if_pos (by omega)];omega
theorem j3N {left:Int} {n rest:Nat} {F:Int->Res} {k:Int->Res} (h0:0<=left) (h1:left<=1048576) (hn:n<=maxLen) (hF:(n:Int)<=left->F (left-n)=k (szR (left-n) rest)) :
  (bif decide (Z8o (left-nI n)<0) then k (-1) else F (Z8o (left-nI n)))=k (szR left (n+rest)):=by
 unfold maxLen at hn
 rw [Z9j (by unfold nI;omega) (by unfold nI;omega)]
 unfold nI
 by_cases h:(n:Int)<=left
 ·rw [Z8I (by omega),cond_false,hF h,Z8W h]
 ·rw [Z8J (by omega),cond_true,Z8X h]
theorem j3M {left:Int} {k:Int->Res} (h0:0<=left):k left=k (szR left 0):=by rw [j3z h0]
theorem j0o {i n:Nat} (h:i<n):inb (i:Int) n=true:=Z9k (by omega) (by omega)
theorem j0h {n:Int} (h: -9223372036854775808<=n/\n<9223372036854775808):Z8o n=n:=Z9j h.1 h.2
theorem j3A (n:Nat):Int.tdiv (n:Int) 10=((n / 10:Nat):Int):=by
 rw [Int.tdiv_eq_ediv_of_nonneg (by omega)];omega
theorem j3B (n:Nat):Int.tmod (n:Int) 10=((n % 10:Nat):Int):=by
 rw [Int.tmod_eq_emod_of_nonneg (by omega)];omega
theorem j2I {n:Nat} (h:n<10):j1U n=dgt n:=by rw [j1U,dif_pos h]
theorem j3c {n:Nat} (h:¬ n<10):j1U n=j1U (n / 10)++dgt ((n % 10:Nat):Int):=by rw [j1U,dif_neg h]
theorem j2T:∀ (d n:Nat),n<10 ^ (d+1)->(j1U n).size<=d+1
 | 0,n,h=>by rw [j2I (by omega),j1D];exact Nat.le_refl _
 | d+1,n,h=>by
  by_cases h1:n<10
  ·rw [j2I h1,j1D];omega
  ·rw [j3c h1,ByteArray.size_append,j1D]
   have:n / 10<10 ^ (d+1):=Nat.div_lt_of_lt_mul (by rw [Nat.pow_succ] at h;omega)
   have:=j2T d (n / 10) this
   omega
theorem j3L (s:ByteArray):s++eS=s:=by
 show s++ByteArray.empty=s
 simp
end Go.PI.G
namespace Go.PI.G
open Go Go.PI
abbrev C:=ByteArray×Int×Bool×Bool×V
abbrev T:=ByteArray×List C×List ByteArray
abbrev zT:T:=(eS,[],[])
noncomputable def j0M (s:ByteArray):Bool:= !((Z1e s).any λb=>decide (b<97)||decide (b>122))&&(decide (1<=s.size)&&decide (s.size<=8))
end Go.PI.G
namespace Go.PI.G
open Go Go.PI Go.Proofs
theorem j3n (s:ByteArray) (i:Nat) (h:i<(Z1e s).length):bt s (i:Int)=(Z1e s)[i]:=by
 have hl:=j1N s
 have h':i<s.data.size:=by
  have:i<s.size:=by omega
  exact this
 have e1:(Z1e s)[i]=((s.data.toList.map λb:UInt8=>(b.toNat:Int))[i]'(by simpa using h')):=rfl
 rw [e1,List.getElem_map]
 unfold bt
 simp [Array.getElem?_eq_getElem h']
theorem j3C (s:ByteArray) (x:Bool) (k:Bool->Res):(bif x then k false else (bif decide ((nI (ByteArray.size s))>=1) then k (decide ((nI (ByteArray.size s))<=8)) else k false))=k (!x&&(decide (1<=s.size)&&decide (s.size<=8))):=by
 cases x
 ·unfold nI
  by_cases h1:1<=s.size
  ·rw [cond_false,decide_eq_true (show (s.size:Int)>=1 by omega),cond_true,decide_eq_true h1]
   congr 1
   by_cases h2:s.size<=8
   ·rw [decide_eq_true (show (s.size:Int)<=8 by omega),decide_eq_true h2];rfl
   ·rw [decide_eq_false (show ¬ (s.size:Int)<=8 by omega),decide_eq_false h2];rfl
  ·rw [cond_false,decide_eq_false (show ¬ (s.size:Int)>=1 by omega),cond_false,decide_eq_false h1];rfl
 ·rfl
theorem j2h (s:ByteArray) (h:s.size<=LIM) (k:Bool->Res):j0G s k=k (j0M s):=by
 unfold j0G j1m
 have hl:=j1N s
 have:=Z8G (Z1e s) (λi=>i) (λb=>decide (b<97)||decide (b>122)) (step:=j14 s) ((λ(_:Unit)=>bif decide ((nI (ByteArray.size s))>=1) then k (decide ((nI (ByteArray.size s))<=8)) else k false),(λ(_:Unit)=>k false)) (bif decide ((nI (ByteArray.size s))>=1) then k (decide ((nI (ByteArray.size s))<=8)) else k false) (k false) (by omega) (λi rec hi=>by
  show j0m s _ _ _ _=_
  unfold j0m
  unfold LIM at h
  have hi':i<s.size:=by omega
  rw [Z9q hi',cond_true,j0o hi',cond_true,cond_true,j3n s i hi,j0h (n:=(i:Int)+1) (by omega)]
  cases decide ((Z1e s)[i]<97)
  ·cases decide ((Z1e s)[i]>122)<;>rfl
  ·rfl) (λrec=>by
  show j0m s _ _ _ _=_
  unfold j0m
  rw [hl,Z9p,cond_false])
 refine this.trans ?_
 exact j3C s _ k
theorem j2f (s:ByteArray) (h:s.size<=LIM) (k:Bool->Res):j0s s k=k (j0M s):=by
 unfold j0s j0P
 have hl:=j1N s
 have:=Z8G (Z1e s) (λi=>i) (λb=>decide (b<97)||decide (b>122)) (step:=j11 s) ((λ(_:Unit)=>j0t (nI (ByteArray.size s)) 1 8 λ(r:Bool)=>k r),(λ(_:Unit)=>k false)) (j0t (nI (ByteArray.size s)) 1 8 λ(r:Bool)=>k r) (k false) (by omega) (λi rec hi=>by
  show j0i s _ _ _ _=_
  unfold j0i
  unfold LIM at h
  have hi':i<s.size:=by omega
  rw [Z9q hi',cond_true,j0o hi',cond_true,cond_true,j3n s i hi,j0h (n:=(i:Int)+1) (by omega)]
  cases decide ((Z1e s)[i]<97)
  ·cases decide ((Z1e s)[i]>122)<;>rfl
  ·rfl) (λrec=>by
  show j0i s _ _ _ _=_
  unfold j0i
  rw [hl,Z9p,cond_false])
 refine this.trans ?_
 rw [j3q]
 have hd:decide (1<=nI s.size/\nI s.size<=8)=(decide (1<=s.size)&&decide (s.size<=8)):=by
  rw [<-Bool.decide_and]
  exact decide_eq_decide.2 (by unfold nI;omega)
 rw [hd]
 unfold j0M
 cases (Z1e s).any λb=>decide (b<97)||decide (b>122)<;>rfl
end Go.PI.G
namespace Go.PI.G
open Go Go.PI Go.Proofs
noncomputable def j2a (p:List ByteArray):Bool:= !Z5X (λi s=> !j0M s||(decide (0<i)&&sGe (nth eS p ((i:Int)-1)) s)) 0 p&&decide (p.length<=6)
theorem j39 (c:List ByteArray) (i:Nat) (hi:i<c.length) (hl:c.length<=LIM) (x:Res) (y:Res):(bif decide ((i:Int)>0) then (bif inb (Z8o ((i:Int)-1)) c.length then (bif sGe (nth eS c (Z8o ((i:Int)-1))) c[i] then x else y) else none) else y) =
  bif (decide (0<i)&&sGe (nth eS c ((i:Int)-1)) c[i]) then x else y:=by
 by_cases h:0<i
 ·unfold LIM at hl
  rw [decide_eq_true (show (i:Int)>0 by omega),decide_eq_true h,cond_true,j0h (by omega),Z9k (by omega) (by omega),cond_true,Bool.true_and]
 ·rw [decide_eq_false (show ¬ (i:Int)>0 by omega),decide_eq_false h];rfl
theorem j2Y {p:List ByteArray} (h:msr (.slice .str) p<=1048576):p.length<=1048576/\∀ x∈p,x.size<=1048576:=⟨j1P h,λx hx=>j3H h hx⟩
theorem j3l (p:List ByteArray) (h:msr (.slice .str) p<=1048576) (k:Bool->Res):j1d p k=k (j2a p):=by
 obtain ⟨m1,m2⟩:=j2Y h
 unfold j1d j1z j2a
 have:=Z8t p (λi=>i) (λi s=> !j0M s||(decide (0<i)&&sGe (nth eS p ((i:Int)-1)) s)) (step:=j1e p (nI p.length) p) ((λ(_:Unit)=>k (decide (nI p.length<=6))),(λ(_:Unit)=>k false)) (k (decide (nI p.length<=6))) (k false) (by unfold LIM;omega) (λi rec hi=>by
  show j0r _ _ p _ _ _ _=_
  unfold j0r
  rw [Z9q hi,cond_true,j0o hi,cond_true,Z9a _ _ _ hi,j2h _ (by have:=m2 _ (List.getElem_mem hi);unfold LIM;omega),j0h (n:=(i:Int)+1) (by omega),j39 p i hi (by unfold LIM;omega)]
  cases j0M p[i]
  ·rfl
  ·cases (decide (0<i)&&sGe (nth eS p ((i:Int)-1)) p[i])<;>rfl) (λrec=>by
  show j0r _ _ p _ _ _ _=_
  unfold j0r
  rw [Z9p,cond_false])
 refine this.trans ?_
 have hd:decide (nI p.length<=6)=decide (p.length<=6):=decide_eq_decide.2 (by unfold nI;omega)
 rw [hd]
 cases Z5X (λi s=> !j0M s||(decide (0<i)&&sGe (nth eS p ((i:Int)-1)) s)) 0 p
 ·rw [cond_false,Bool.not_false,Bool.true_and]
 ·rfl
theorem j3h (p:List ByteArray) (h:msr (.slice .str) p<=1048576) (k:Bool->Res):j18 p k=k (j2a p):=by
 obtain ⟨m1,m2⟩:=j2Y h
 unfold j18 j1w j2a
 have:=Z8t p (λi=>i) (λi s=> !j0M s||(decide (0<i)&&sGe (nth eS p ((i:Int)-1)) s)) (step:=j19 p (nI p.length) p) ((λ(_:Unit)=>k (decide (nI p.length<=6))),(λ(_:Unit)=>k false)) (k (decide (nI p.length<=6))) (k false) (by unfold LIM;omega) (λi rec hi=>by
  show j0p _ _ p _ _ _ _=_
  unfold j0p
  rw [Z9q hi,cond_true,j0o hi,cond_true,Z9a _ _ _ hi,j2f _ (by have:=m2 _ (List.getElem_mem hi);unfold LIM;omega),j0h (n:=(i:Int)+1) (by omega),j39 p i hi (by unfold LIM;omega)]
  cases j0M p[i]
  ·rfl
  ·cases (decide (0<i)&&sGe (nth eS p ((i:Int)-1)) p[i])<;>rfl) (λrec=>by
  show j0p _ _ p _ _ _ _=_
  unfold j0p
  rw [Z9p,cond_false])
 refine this.trans ?_
 have hd:decide (nI p.length<=6)=decide (p.length<=6):=decide_eq_decide.2 (by unfold nI;omega)
 rw [hd]
 cases Z5X (λi s=> !j0M s||(decide (0<i)&&sGe (nth eS p ((i:Int)-1)) s)) 0 p
 ·rw [cond_false,Bool.not_false,Bool.true_and]
 ·rfl
end Go.PI.G
namespace Go.PI.G
open Go Go.PI Go.Proofs
noncomputable def j1W (p:List ByteArray) (s:ByteArray):Bool:=p.any λx=>sEq x s
theorem j3w {α:Type} (q:α->Bool) (l:List α):decide (Z8j q l>=0)=l.any q:=by
 unfold Z8j
 cases h:l.findIdx? q with
 | none=>
  have:=List.findIdx?_eq_none_iff.1 h
  have ha:l.any q=false:=by
   rw [List.any_eq_false]
   intro x hx
   rw [this x hx];simp
  rw [ha];rfl
 | some i=>
  have:=List.findIdx?_eq_some_iff_getElem.1 h
  obtain ⟨hi,hq,_⟩:=this
  have ha:l.any q=true:=List.any_eq_true.2 ⟨l[i],List.getElem_mem hi,hq⟩
  rw [ha]
  show decide ((i:Int)>=0)=true
  exact decide_eq_true (by omega)
theorem j3g (l:List ByteArray) (s:ByteArray) (h:l.length<=LIM) (k:Bool->Res):j02 l s k=k (j1W l s):=by
 unfold j02 j0K j0u j1W
 have:=Z8w l (λi=>i) (λx=>sEq s x) (step:=j0k l s (nI l.length)) ((λ(_:Unit)=>k (decide ((-1:Int)>=0))),(λ(t:Int)=>k (decide (t>=0)))) (λr=>k (decide (r>=0))) h (λi rec hi=>by
  show j01 _ _ _ _ _ _ _=_
  unfold j01
  unfold LIM at h
  rw [Z9q hi,cond_true,j0o hi,cond_true,Z9a _ _ _ hi,j0h (n:=(i:Int)+1) (by omega)]) (λrec=>by
  show j01 _ _ _ _ _ _ _=_
  unfold j01
  rw [Z9p,cond_false])
 refine this.trans ?_
 rw [j3w]
 have:(λx=>sEq s x)=λx=>sEq x s:=by funext x;exact Z8S s x
 rw [this]
end Go.PI.G
namespace Go.PI.G
open Go Go.PI Go.Proofs
noncomputable def j1n (p:List ByteArray) (t:ByteArray):List ByteArray:=p.filter λx=> !sEq x t
noncomputable def j1M (p:List ByteArray) (t:ByteArray):List ByteArray×Int:=bif !j2a p then ([],1) else bif !j0M t then ([],1) else bif !j1W p t then ([],4) else (j1n p t,0)
theorem j3v (p:List ByteArray) (t:ByteArray):(j1n p t).length<=p.length:=List.length_filter_le _ _
theorem j3p (p:List ByteArray) (t:ByteArray):((j1n p t).length==p.length)= !j1W p t:=by
 unfold j1n j1W
 induction p with
 | nil=>rfl
 | cons x l ih=>
  have hl:=List.length_filter_le (λx=> !sEq x t) l
  cases hx:sEq x t
  ·rw [List.filter_cons_of_pos (by rw [hx];rfl),List.any_cons,hx,Bool.false_or,<-ih,List.length_cons,List.length_cons]
   rw [Bool.eq_iff_iff]
   simp
  ·rw [List.filter_cons_of_neg (by rw [hx];simp),List.any_cons,hx,Bool.true_or,Bool.not_true,List.length_cons,beq_eq_false_iff_ne]
   omega
theorem j3o (p:List ByteArray) (t:ByteArray):msr (.slice .str) (j1n p t)<=msr (.slice .str) p:=by
 have h:∀ l:List ByteArray,((j1n l t).map (msr .str)).sum<=(l.map (msr .str)).sum:=by
  intro l
  unfold j1n
  induction l with
  | nil=>exact Nat.le_refl _
  | cons x l ih=>
   cases hx:sEq x t
   ·rw [List.filter_cons_of_pos (by rw [hx];rfl),List.map_cons,List.map_cons,List.sum_cons,List.sum_cons]
    omega
   ·rw [List.filter_cons_of_neg (by rw [hx];simp),List.map_cons,List.sum_cons]
    omega
 have h1:=h p
 have h2:=j3v p t
 rw [j2U,j2U]
 exact Nat.add_le_add h2 h1
theorem j3x (t:ByteArray) (l:List ByteArray):(l.flatMap λx=>bif sNe x t then [x] else []).length<=l.length:=by
 induction l with
 | nil=>exact Nat.le_refl _
 | cons x l ih=>
  rw [List.flatMap_cons,List.length_append,List.length_cons]
  have:(bif sNe x t then [x] else []).length<=1:=by cases sNe x t<;>simp
  omega
theorem j3k (p:List ByteArray) (t:ByteArray) (hp:msr (.slice .str) p<=1048576) (ht:t.size<=1048576) (k:List ByteArray->Int->Res):j0F p t k=k (j1M p t).1 (j1M p t).2:=by
 obtain ⟨n1,n2⟩:=j2Y hp
 unfold j0F j1M
 rw [j3l p hp]
 cases j2a p
 ·rfl
 ·rw [Bool.not_true,cond_false,cond_false,j2h t (by unfold LIM;omega)]
  cases j0M t
  ·rfl
  ·rw [Bool.not_true,cond_false,cond_false]
   unfold j0V
   have:=Z8x p (λi out=>(i,out)) (λx=>bif sNe x t then [x] else []) 1048576 [] (step:=j13 t p (nI p.length)) (λ(out:List ByteArray)=>bif ((nI (List.length out))==(nI (List.length p))) then k [] 4 else k out 0)
    (λout=>bif ((nI (List.length out))==(nI (List.length p))) then k [] 4 else k out 0) (by unfold LIM;omega) (λi hi hh=> ?_) (by simp) (λi out rec hi ho hb=>by
    show j0l _ _ _ _ _ _ _=_
    unfold j0l
    rw [Z9q hi,cond_true,j0o hi,cond_true,Z9a _ _ _ hi,j0h (n:=(i:Int)+1) (by omega)]
    cases sNe p[i] t
    ·rw [cond_false,cond_false,List.append_nil]
    ·rw [cond_true,cond_true,show lim (out.length+1)=true from decide_eq_true (by unfold LIM;omega),cond_true]) (λout rec=>by
    show j0l _ _ _ _ _ _ _=_
    unfold j0l
    rw [Z9p,cond_false])
   ·refine this.trans ?_
    have hd:[]++p.flatMap (λx=>bif sNe x t then [x] else [])=j1n p t:=by
     unfold j1n
     rw [List.nil_append]
     clear this n1 n2 hp
     induction p with
     | nil=>rfl
     | cons x l ih=>
      rw [List.flatMap_cons,ih]
      cases hx:sEq x t
      ·rw [List.filter_cons_of_pos (by rw [hx];rfl),show sNe x t=true by unfold sNe;unfold sEq at hx;rw [hx];rfl];rfl
      ·rw [List.filter_cons_of_neg (by rw [hx];simp),show sNe x t=false by unfold sNe;unfold sEq at hx;rw [hx];rfl];rfl
    rw [hd]
    have h2:(nI (j1n p t).length==nI p.length)= !j1W p t:=by
     rw [<-j3p]
     unfold nI
     rw [Bool.eq_iff_iff]
     simp only [beq_iff_eq]
     omega
    rw [h2]
    cases j1W p t<;>rfl
   ·have h1:=j3x t (p.take (i+1))
    have h2:(p.take (i+1)).length<=p.length:=by rw [List.length_take];omega
    rw [List.nil_append]
    omega
theorem j2w (p:List ByteArray) (t:ByteArray) (hp:msr (.slice .str) p<=1048576) (ht:t.size<=1048576) (k:List ByteArray->Int->Res):j0g p t k=k (j1M p t).1 (j1M p t).2:=by
 obtain ⟨n1,n2⟩:=j2Y hp
 unfold j0g j1M
 rw [j3h p hp]
 cases j2a p
 ·rfl
 ·rw [Bool.not_true,cond_false,cond_false,j2f t (by unfold LIM;omega)]
  cases j0M t
  ·rfl
  ·rw [Bool.not_true,cond_false,cond_false,j3g p t (by unfold LIM;omega)]
   cases hh:j1W p t
   ·rfl
   ·rw [Bool.not_true,cond_false,cond_false]
    unfold j0Q
    rw [show lim (0+p.length)=true from decide_eq_true (by unfold LIM;omega),cond_true]
    unfold j07
    have hne:0<p.length:=by
     cases p with
     | nil=>cases hh
     | cons=>simp
    show (bif decide (0<p.length)&&lim p.length then k (List.filter (λx=> !sEq x t) p) 0 else none)=_
    rw [decide_eq_true hne,Bool.true_and,show lim p.length=true from decide_eq_true (by unfold LIM;omega),cond_true]
    rfl
end Go.PI.G
namespace Go.PI.G
open Go Go.PI Go.Proofs
theorem j22 (k:ByteArray->Res):∀ (m n d:Nat) (s:ByteArray),n<m->0<n->n<=4294967296->n<10 ^ (d+1)->s.size+d<=1000 ->
  Z14 j0q m ((n:Int),s) k=k (j1U n++s)
 | 0,n,d,s,h,_,_,_,_=>by omega
 | m+1,n,d,s,h,hn,hb,hd,hs=>by
  rw [Z8C]
  show j0d _ _ _ _=_
  unfold j0d
  have h9:decide ((n:Int)>0)=true:=decide_eq_true (by omega)
  rw [h9,cond_true,j3A,j3B,Z9j (n:=((n / 10:Nat):Int)) (by omega) (by omega)]
  show (bif lim ((dgt ((n % 10:Nat):Int)).size+s.size) then Z14 j0q m (((n / 10:Nat):Int),dgt ((n % 10:Nat):Int)++s) k else none)=_
  rw [j1D,Z9l (by unfold LIM;omega),cond_true]
  by_cases h1:n<10
  ·have h10:n / 10=0:=by omega
   have h11:n % 10=n:=by omega
   rw [h10,h11,j2I h1]
   obtain ⟨m,rfl⟩:∃ e,m=e+1:=⟨m-1,by omega⟩
   rw [Z8C]
   show j0d _ _ _ _=_
   unfold j0d
   have h0:decide (((0:Nat):Int)>0)=false:=decide_eq_false (by omega)
   rw [h0,cond_false]
  ·obtain ⟨d,rfl⟩:∃ e,d=e+1:=by
    cases d with
    | zero=>exact absurd (by simpa using hd) h1
    | succ d=>exact ⟨d,rfl⟩
   rw [j22 k m (n / 10) d _ (by omega) (by omega) (by omega) (Nat.div_lt_of_lt_mul (by rw [Nat.pow_succ] at hd;omega)) (by rw [ByteArray.size_append,j1D];omega),j3c h1,ByteArray.append_assoc]
theorem j2g (k:Int) (h:1<=k/\k<=4294967296) (K:ByteArray->Res):j0D k K=K (mT k):=by
 unfold j0D j12
 have h0:decide (k<=0)=false:=decide_eq_false (by omega)
 have:=j22 (λ(out:ByteArray)=>bif lim (1+(ByteArray.size out)) then K (z_m++out) else none) Z12 k.toNat 12 eS (Z1U (by omega)) (by omega) (by omega) (by omega) (by show 0+12<=1000;omega)
 rw [show ((k.toNat:Nat):Int)=k by omega,j3L] at this
 rw [h0,cond_false]
 refine this.trans ?_
 have hs:=j2T 12 k.toNat (by omega)
 rw [Z9l (by unfold LIM;omega),cond_true]
 rfl
end Go.PI.G
set_option maxRecDepth 10000
namespace Go.PI.G
open Go Go.PI Go.Proofs
theorem j3b (a:(List ByteArray)) (h:msr y1 a<=1048576) (k:(List ByteArray)->Res):j0T a k=k a:=by
 have hl:a.length<=1048576:=j1P h
 unfold j0T
 rw [Z97 (by unfold LIM;omega),cond_true]
 have:=Z9e (eS) a id (step:=j0J a) (λout=>k out) (by unfold LIM;omega) (λout i rec hi hlo=>by
  show j0b a _ _ _ _=_
  unfold j0b
  dsimp only
  simp only [Z9q hi,cond_true,j0o hi,j0o (show i<out.length by omega),Z9a _ _ _ hi,Z9h,j0h (n:=(i:Int)+1) (by omega)]
  rfl) (λout rec=>by
  show j0b a _ _ _ _=_
  unfold j0b
  dsimp only
  rw [Z9p,cond_false])
 rw [List.map_id] at this
 exact this
theorem j3a (a:(List ByteArray)) (left:Int) (h0:0<=left) (h1:left<=1048576) (hw:Wf y1 a) (k:Int->Res):j0S a left k=k (szR left (msr y1 a)):=by
 have hl:a.length<=maxLen:=hw.1
 have hm:msr y1 a=a.length+(a.map (msr .str)).sum:=rfl
 rw [hm]
 unfold j0S
 refine j3N (F:=λq=>j0w a Z12 q 0 (λleft1=>k left1) (λ_=>k (-1))) (k:=k) h0 h1 hl λhb=> ?_
 unfold j0w
 rw [Z9d (msr .str) a _ (by omega) (λleft i rec hi h0 h1=> ?_) (λleft rec=> ?_) _ (by omega) (by omega)]
 ·by_cases hb:(((a.map (msr .str)).sum:Nat):Int)<=left-a.length
  ·rw [if_pos hb,Z9c hb]
  ·rw [if_neg hb,Z9b hb]
 ·show j0a a _ _ _ _ _=_
  have hx:=hw.2 _ (List.getElem_mem hi)
  unfold j0a
  have hx:a[i].size<=maxLen:=hx
  unfold maxLen at hx hl
  rw [Z9q hi,cond_true,j0o hi,cond_true,Z9a _ _ _ hi,j0h (n:=left-nI a[i].size) (by unfold nI;omega),j0h (n:=(i:Int)+1) (by omega)]
  unfold nI
  by_cases hb:((msr .str a[i]:Nat):Int)<=left
  ·have hb':(a[i].size:Int)<=left:=hb
   rw [if_pos hb,Z8I (by omega),cond_false];rfl
  ·have hb':¬ (a[i].size:Int)<=left:=hb
   rw [if_neg hb,Z8J (by omega),cond_true]
 ·show j0a a _ _ _ _ _=_
  unfold j0a
  rw [Z9p,cond_false]
theorem j35 (a:(List ByteArray)) (h:msr y1 a<=1048576) (k:Bool->Res):j0R a a k=k true:=by
 have hl:a.length<=1048576:=j1P h
 unfold j0R
 rw [Z9o,cond_false]
 unfold j0X
 rw [Z93 a _ (by unfold LIM;omega) (λi rec hi=> ?_) (λrec=> ?_)]
 ·show j09 a a _ _ _ _=_
  unfold j09
  simp only [Z9q hi,cond_true,j0o hi,Z9a _ _ _ hi,j0h (n:=(i:Int)+1) (by omega),Z9o,Z8U,cond_false,Bool.not_true]
 ·show j09 a a _ _ _ _=_
  unfold j09
  rw [Z9p,cond_false]
theorem j2K (a:(List ByteArray)) (k:Int) (h:msr y1 a<=1048576) (h0:1<=k) (hk:k+(wgt y1 a:Int)<=4294967296) (K:Int->(List ByteArray)->Res):j0C a k K=K (k+(wgt y1 a:Int)) (mkL (wgt .str) (mk .str) a k):=by
 have hl:a.length<=1048576:=j1P h
 have hwg:wgt y1 a=(a.map (wgt .str)).sum:=rfl
 rw [hwg] at hk ⊢
 unfold j0C j0I
 have:=Z8D (wgt .str) (mk .str) a k (λl k i=>(l,k,i)) (step:=j0z) (λl k=>K k l) (λl k=>K k l) (by unfold LIM;omega) (λl i rec hi hll hli hla=>by
  have e1:=Z6s (wgt .str) a i hi
  have e2:=Z8p (wgt .str) a (i+1)
  generalize hκ:k+((((a.take i).map (wgt .str)).sum:Nat):Int)=κ
  have hκ1:1<=κ/\κ+(wgt .str a[i]:Int)<=4294967296:=by omega
  have hw:(wgt .str a[i]:Int)=1:=by
   have:wgt .str a[i]=1:=by first | rfl | (simp only [wgt];done) | (simp only [wgt];omega)
   first | rfl | omega
  show j05 _ _ _ _ _=_
  dsimp only
  unfold j05
  rw [<-hll] at hi
  have hi':i<a.length:=by omega
  simp (disch:=first | assumption | omega) only [show nI a.length=nI l.length by rw [hll],Z9q,j0o,j3J,cond_true,j3I,j3K,Z9a,hla,j0h,j2g,<-hll]
  rw [Z9h]
  congr 3<;>first | rfl | omega | (simp only [j2O,j2n,j37,j3i,j2N,j38,j2s,j2R,j2r,j2S,Int.natCast_add,Int.natCast_one,<-Int.add_assoc];done) | (simp only [j2O,j2n,j37,j3i,j2N,j38,j2s,j2R,j2r,j2S,Int.natCast_add,Int.natCast_one,<-Int.add_assoc];rfl) | skip) (λl k rec hll=>by
  show j05 _ _ _ _ _=_
  dsimp only
  unfold j05
  rw [<-hll,Z9p,cond_false])
 exact this
theorem j2J (a:(List ByteArray)) (k:Int) (h:msr y1 a<=1048576) (h0:1<=k) (hk:k+(wgt y1 a:Int)<=4294967296) (K:Int->Res):j0B (mkL (wgt .str) (mk .str) a k) k K=K (k+(wgt y1 a:Int)):=by
 have hl:a.length<=1048576:=j1P h
 have hwg:wgt y1 a=(a.map (wgt .str)).sum:=rfl
 rw [hwg] at hk ⊢
 have hll:=Z5t (wgt .str) (mk .str) a k
 have hg:=Z96 (wgt .str) (mk .str) a k
 generalize mkL (wgt .str) (mk .str) a k=l at hll hg
 unfold j0B j0H
 have:=Z8A (wgt .str) a k (λk i=>(k,i)) (step:=j0y l) ((λ(k_1:Int)=>K k_1),(λ(_:Unit)=>K (-1))) (λk=>K k) (by unfold LIM;omega) (λi rec hi=>by
  have e1:=Z6s (wgt .str) a i hi
  have e2:=Z8p (wgt .str) a (i+1)
  have hgi:=hg i hi (by omega)
  generalize hκ:k+((((a.take i).map (wgt .str)).sum:Nat):Int)=κ at hgi
  have hκ1:1<=κ/\κ+(wgt .str a[i]:Int)<=4294967296:=by omega
  have hw:(wgt .str a[i]:Int)=1:=by
   have:wgt .str a[i]=1:=by first | rfl | (simp only [wgt];done) | (simp only [wgt];omega)
   first | rfl | omega
  show j04 _ _ _ _ _ _=_
  dsimp only
  unfold j04
  have hi':i<l.length:=by omega
  simp (disch:=first | assumption | omega) only [Z9q,j0o,cond_true,cond_false,Z9a,hgi,j2O,j2n,j37,j3i,j2N,j38,j2s,j2R,j2r,j2S,Int.natCast_add,Int.natCast_one,<-Int.add_assoc,j0h,j2g,Z9o,Z8U,beq_self_eq_true,Bool.not_true,Z8I]
  all_goals (congr 2;omega)) (λk rec=>by
  show j04 _ _ _ _ _ _=_
  dsimp only
  unfold j04
  rw [<-hll,Z9p,cond_false])
 exact this
end Go.PI.G
namespace Go.PI.G
open Go Go.PI Go.Proofs
theorem j1Z (a:List ByteArray) (h:msr y1 a<=1048576) (k:(List ByteArray)->Res):j0f a k=k a:=by
 have h0:msr y1 a<=1048576:=h
 unfold j0f
 simp only [j3b _ h0]
theorem j3y (a:List ByteArray) (left:Int) (h0:0<=left) (h1:left<=1048576) (hw:Wf y1 a) (k:Int->Res):j1a a left k=k (szR left (msr y1 a)):=by
 have hm:msr y1 a=msr y1 a+0:=rfl
 rw [hm]
 unfold j1a
 rw [j3a _ _ (by omega) (by omega) hw]
 by_cases hb0:((msr y1 a:Nat):Int)<=left
 rotate_left
 ·rw [Z9b hb0,Z8X hb0,Z8J (by omega),cond_true]
 rw [Z9c hb0,Z8W hb0,Z8I (by omega),cond_false]
 exact j3M (by omega)
theorem j1V (a:List ByteArray) (h:msr y1 a<=1048576) (k:Bool->Res):j0e a a k=k true:=by
 have h0:msr y1 a<=1048576:=h
 unfold j0e
 simp only [Z9o,Z8U,beq_self_eq_true,cond_false,Bool.not_true,j35 _ h0]
theorem j2y (a:List ByteArray) (k:Int) (h:msr y1 a<=1048576) (h0:1<=k) (hk:k+(j0A y1 a:Int)<=4294967296) (K:Int->(List ByteArray)->Res):j0j a k K=K (k+(j0A y1 a:Int)) (mkT y1 a k):=by
 have h0:msr y1 a<=1048576:=h
 have g0:msr y1 a<=1048576:=h
 have w0:j0A y1 a=wgt y1 a:=rfl
 have hw:j0A y1 a=wgt y1 a:=by first | rfl | (simp only [j1J,w0,j15,j0O,j16,Nat.zero_add,Nat.add_zero];done) | (simp only [j1J,w0,j15,j0O,j16,Nat.zero_add,Nat.add_zero];omega)
 unfold j0j
 simp (disch:=first | assumption | omega) only [j2K]
 first | rfl | (simp only [j1I,j2L,j2m,j2M,w0,j15,j0O,j16,Int.natCast_add,Int.natCast_zero,Int.cast_ofNat_Int,Nat.zero_add,Nat.add_zero,Int.add_zero,<-Int.add_assoc];done) | (simp only [j1I,j2L,j2m,j2M,w0,j15,j0O,j16,Int.natCast_add,Int.natCast_zero,Int.cast_ofNat_Int,Nat.zero_add,Nat.add_zero,Int.add_zero,<-Int.add_assoc];rfl)
theorem j2v (a:List ByteArray) (k:Int) (h:msr y1 a<=1048576) (h0:1<=k) (hk:k+(j0A y1 a:Int)<=4294967296) (K:Int->Res):j0x (mkL (wgt .str) (mk .str) a k) k K=K (k+(j0A y1 a:Int)):=by
 have h0:msr y1 a<=1048576:=h
 have g0:msr y1 a<=1048576:=h
 have w0:j0A y1 a=wgt y1 a:=rfl
 have hw:j0A y1 a=wgt y1 a:=by first | rfl | (simp only [j1J,w0,j15,j0O,j16,Nat.zero_add,Nat.add_zero];done) | (simp only [j1J,w0,j15,j0O,j16,Nat.zero_add,Nat.add_zero];omega)
 unfold j0x
 simp (disch:=first | assumption | omega) only [j1I,j2L,j2m,j2M,w0,j15,j0O,j16,Int.natCast_add,Int.natCast_zero,Int.cast_ofNat_Int,Nat.zero_add,Nat.add_zero,Int.add_zero,<-Int.add_assoc,j2J,Z8I,cond_false]
 all_goals (repeat (show (bif decide (_<(0:Int)) then _ else _)=_;rw [Z8I (by omega),cond_false]))
 all_goals first | done | rfl | (congr 1;omega)
end Go.PI.G
namespace Go.PI.G
open Go Go.PI Go.Proofs
theorem j3r (x0:List ByteArray) (w0:Wf (.slice .str) x0) (x1:ByteArray) (w1:Wf .str x1) (k:Bool->Res):j0c x0 x1 k=k true:=by
 unfold j0c
 by_cases hs:nI x1.size>1048576
 ·rw [decide_eq_true hs,cond_true]
 have hs':x1.size<=1048576:=by unfold nI at hs;omega
 rw [decide_eq_false hs,cond_false,j3y x0 1048576 (by omega) (by omega) w0]
 by_cases hm:((msr (.slice .str) x0:Nat):Int)<=1048576
 rotate_left
 ·rw [Z9b hm];rfl
 have hm':msr (.slice .str) x0<=1048576:=by omega
 have hq:msr (.slice .str) (j1M x0 x1).1<=1048576:=by
  have hz:msr (.slice .str) []<=1048576:=by decide
  unfold j1M
  cases j2a x0
  ·exact hz
  ·cases j0M x1
   ·exact hz
   ·cases j1W x0 x1
    ·exact hz
    ·exact Nat.le_trans (j3o x0 x1) hm'
 rw [Z9c hm,decide_eq_false (by omega),cond_false,j1Z x0 hm',j3k x0 x1 hm' hs',j1Z x0 hm',j2w x0 x1 hm' hs',j1V _ hq,Bool.not_true,cond_false,Z9o,cond_false,j1Z x0 hm',j1V x0 hm',Bool.not_true,cond_false]
 have f0:=j2V (τ:= .slice .str) (by decide) hm'
 have f0':=j1o (.slice .str) x0
 have f2:=j2V (τ:= .slice .str) (by decide) hq
 have f2':=j1o (.slice .str) (j1M x0 x1).1
 have k0:(1:Int)+((j0A (.slice .str) x0:Nat):Int)<=4294967296:=by omega
 have k2:(1:Int)+((j0A (.slice .str) (j1M x0 x1).1:Nat):Int)<=4294967296:=by omega
 rw [j2y x0 1 hm' (by omega) k0]
 unfold j03
 rw [decide_eq_false (by omega),cond_false,j1V _ hq,Bool.not_true,cond_false,Z9o,cond_false,j2y _ 1 hq (by omega) k2,j1I,j2v _ 1 hq (by omega) k2,decide_eq_false (by omega),cond_false,Z9o,cond_false,j1Z x0 hm',j2w x0 x1 hm' hs',j1V _ hq,Bool.not_true,cond_false,Z9o,cond_false,j2v _ 1 hq (by omega) k2,decide_eq_false (by omega),cond_false,Z9o,cond_false]
end Go.PI.G
