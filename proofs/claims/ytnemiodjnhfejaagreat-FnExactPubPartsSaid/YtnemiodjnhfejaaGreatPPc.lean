/-
  Program's code interpreted over typed values; printed texts; plain laws. No conditions.
-/
import Derived.Test.YtnemiodjnhfejaaGreatPPb
set_option linter.unusedVariables false
set_option maxRecDepth 100000
namespace Go.PI.G
open Go Go.PI Go.Proofs
open Go.Code (pl pr)
noncomputable def j1H (t5:List qV) (t6:Int) (t7:Int) (rec:Int->Res) (k0:Unit->Res) (k1:Unit->Res):Res:=
 bif decide (t7<t6) then
  bif inb t7 (List.length t5) then
   j44 (nth (0,0,eS) t5 t7) λ(r:Bool)=>
    bif !r then
     k1 ()
    else
     rec (Z9L (t7+1))
  else none
 else
  k0 ()
noncomputable def j4f (t5:List qV) (t6:Int):Int->(Int->Res)->((Unit->Res)×(Unit->Res))->Res:=λv rec q=>j1H t5 t6 v (λt7=>rec (t7)) q.1 q.2
noncomputable def j5m (t5:List qV) (t6:Int) (n:Nat) (t7:Int) (k0:Unit->Res) (k1:Unit->Res):Res:=Z1g (j4f t5 t6) n (t7) (k0,k1)
noncomputable def j76:Z1e Unit:=λσ k=>rdN σ 23<|rd1 σ 0 y3 .S λl=>rd1 σ 5 y3 .S λt5=>rdI σ 6 λt6=>rdI σ 7 λt7=>j5m t5 t6 Z1d t7 (λ(_:Unit)=>k (.exit 0) (mkS 23 23 [(0,v1 y3 l .S)] [])) (λ(_:Unit)=>k .ret (mkS 23 23 [(2,vB false)] []))
theorem j9u {W0:Base} {M:Nat->Prop} (hnp:W0.np<=0):Z15 Tryz.prog W0 M (cAt 26 (bo Tryz.f208)) j76:=j08 follows j00 (Za7 j6F Zat) hnp [] oN [0,5,6,7] [] ([],[]) [(0,[0],[])] ([2],[]) λσ k _ h=>rN h λhn h=>rV h λl h0 h=>rV h λt5 h5 h=>rV h λt6 h6 h=>rV h λt7 h7 h=>⟨_,ZaN (m:=23) hn (sC h0 (sC h5 (sC h6 (sC h7 sN)))) bN,.trans (Z9v (λv:Int=>(mkS 23 23 [(0,v1 y3 l .S),(5,v1 y3 t5 .S),(6,vI t6),(7,vI v)] [])) (j4f t5 t6) (λ(k:Z84 Unit)=>(((λ(_:Unit)=>k (.exit 0) (mkS 23 23 [(0,v1 y3 l .S)] [])),(λ(_:Unit)=>k .ret (mkS 23 23 [(2,vB false)] []))):(Unit->Res)×(Unit->Res))) (λv rec k=>by kernel_rfl) Z1d (t7) k) h⟩
noncomputable def j1i (l:List qV) (k0:Bool->Res):Res:=
 j5m l (nI (List.length l)) Z1d 0
  (λ(_:Unit)=>
   bif decide ((nI (List.length l))>=1) then
    k0 (decide ((nI (List.length l))<=8))
   else
    k0 false)
  (λ(_:Unit)=>
   k0 false)
noncomputable def j5O:Sig Unit:=⟨[.look y3 false],[false],λvals ext k=>av vals y3 λl vals=>nl vals<|nl ext<|j1i l (λ(r0:Bool)=>k [wB r0] [] [])⟩
theorem jam:Z18 Tryz.prog 208 j5O:=j02 (np:=0) follows j00 (Za7 j6F Zat) [j76] (oI 26 0 (j9u) oN) false Tryz.func208 λ_ _ k _ h=>aV h λ_ _ _ _ _ h=>nL h λ_ h=>nL h λ_ h=>by subst_vars;exact .trans (by kernel_rfl) h
noncomputable def j10 (d:qG) (k0:Bool->Res):Res:=
 bif (d.1==0) then
  bif sEq d.2.1 eS then
   bif ((nI (List.length d.2.2.1))==0) then
    bif ((nI (List.length d.2.2.2.1))==0) then
     bif sEq d.2.2.2.2.1 eS then
      k0 (sEq d.2.2.2.2.2 eS)
     else
      k0 false
    else
     k0 false
   else
    k0 false
  else
   k0 false
 else
  k0 false
noncomputable def j5i:Sig Unit:=⟨[.look y13 true],[false],λvals ext k=>av vals y13 λd vals=>nl vals<|nl ext<|j10 d (λ(r0:Bool)=>k [wB r0] [] [])⟩
theorem j9K:Z18 Tryz.prog 209 j5i:=j02 (np:=0) follows j00 Zat [] oN false Tryz.func209 λ_ _ k _ h=>aV h λ_ _ _ _ _ h=>nL h λ_ h=>nL h λ_ h=>by subst_vars;exact .trans (by kernel_rfl) h
theorem j82:Fns Tryz.prog [(154,j1r),(208,j5O),(209,j5i),(210,j71)]:=(Za7 j0Z (Za7 jam (Za7 j9K (Za7 jbq Zat))))
noncomputable def j2V (noKey:Bool) (noRow:Bool) (s:qS) (k0:Bool->Res):Res:=
 bif (s.1==1) then
  bif noKey then
   j1i s.2.2.2.1 λ(r:Bool)=>
    bif r then
     j10 s.2.2.2.2 λ(r1:Bool)=>
      k0 r1
    else
     k0 false
  else
   k0 false
 else
  bif (s.1==2) then
   j1i s.2.2.1 λ(r2:Bool)=>
    bif r2 then
     j1i s.2.2.2.1 λ(r3:Bool)=>
      bif r3 then
       j10 s.2.2.2.2 λ(r4:Bool)=>
        k0 r4
      else
       k0 false
    else
     k0 false
  else
   bif (s.1==3) then
    j1i s.2.2.1 λ(r5:Bool)=>
     bif r5 then
      bif noRow then
       j10 s.2.2.2.2 λ(r6:Bool)=>
        k0 r6
      else
       k0 false
     else
      k0 false
   else
    bif (s.1==4) then
     bif noKey then
      bif noRow then
       j10 s.2.2.2.2 λ(r7:Bool)=>
        k0 r7
      else
       k0 false
     else
      k0 false
    else
     bif (s.1==5) then
      bif noKey then
       bif noRow then
        j43 s.2.2.2.2 λ(r8:Bool)=>
         bif r8 then
          k0 (sEq s.2.2.2.2.2.1 s.2.1)
         else
          k0 false
       else
        k0 false
      else
       k0 false
     else
      k0 false
noncomputable def j5w:Z1e Unit:=λσ k=>rdN σ 93<|rdT σ 1 (pB 1)<|rdO σ 3 λnoKey=>rdO σ 4 λnoRow=>rdB σ 1 y17 [.S,.S,.S,.S] λa s=>j2V noKey noRow s (λ(t2:Bool)=>k .ret (mkS 93 93 [(2,vB t2)] []))
theorem j9X {W0:Base} {M:Nat->Prop} (hnp:W0.np<=0):Z15 Tryz.prog W0 M (cAt 31 (bo Tryz.f155)) j5w:=j2s follows j00 j82 hnp [] oN ([],[]) [] ([2],[]) λσ k _ h=>rN h λhn h=>rT h λh1 h=>rV h λnoKey h3 h=>rV h λnoRow h4 h=>rB h λa s hb1 h=>⟨_,ZaN (m:=93) hn (sC h1 (sC h3 (sC h4 sN))) (bC hb1 bN),.trans (by delta j2V j5O j5i j71;refine gz j1i λ_ e=> ?_;rewrite [<-e];refine gz j10 λ_ e=> ?_;rewrite [<-e];refine gz j43 λ_ e=> ?_;rewrite [<-e];kernel_rfl) h⟩
noncomputable def j3n (s:qS) (k0:Bool->Res):Res:=
 j0d s.2.1 λ(r:Bool)=>
  bif !r then
   k0 false
  else
   j2V ((nI (List.length s.2.2.1))==0) ((nI (List.length s.2.2.2.1))==0) s λ(t:Bool)=>
    k0 t
noncomputable def j6b:Sig Unit:=⟨[.look y17 true],[false],λvals ext k=>av vals y17 λs vals=>nl vals<|nl ext<|j3n s (λ(r0:Bool)=>k [wB r0] [] [])⟩
theorem jaU:Z18 Tryz.prog 155 j6b:=j02 (np:=0) follows j00 j82 [j5w] (oI 31 0 (j9X) oN) false Tryz.func155 λ_ _ k _ h=>aV h λ_ _ _ _ _ h=>nL h λ_ h=>nL h λ_ h=>by subst_vars;exact .trans (by delta j3n j1r j5w;refine gz j0d λ_ e=> ?_;rewrite [<-e];refine gz j2V λ_ e=> ?_;rewrite [<-e];kernel_rfl) h
noncomputable def j68 (v_:Int×Int×qB) (k0:Bool->Res):Res:=
 j30 v_ λ(r:Bool)=>
  k0 (!r)
noncomputable def ja0:Sig Unit:=⟨[.look y2 true],[false],λvals ext k=>av vals y2 λv_ vals=>nl vals<|nl ext<|j68 v_ (λ(r0:Bool)=>k [wB r0] [] [])⟩
theorem j7a:Z18 Tryz.prog 272 ja0:=j02 (np:=0) follows j00 (Za7 j8o Zat) [] oN false Tryz.func272 λ_ _ k _ h=>aV h λ_ _ _ _ _ h=>nL h λ_ h=>nL h λ_ h=>by subst_vars;exact .trans (by kernel_rfl) h
noncomputable def j0o (s:List qV) (t7:Int) (t8:Int) (rec:Int->Res) (k0:Unit->Res) (k1:Int->Res):Res:=
 bif decide (t8<t7) then
  bif inb t8 (List.length s) then
   j68 (nth (0,0,eS) s t8) λ(r:Bool)=>
    bif r then
     k1 t8
    else
     rec (Z9L (t8+1))
  else none
 else
  k0 ()
noncomputable def j1K (s:List qV) (t7:Int):Int->(Int->Res)->((Unit->Res)×(Int->Res))->Res:=λv rec q=>j0o s t7 v (λt8=>rec (t8)) q.1 q.2
noncomputable def j2a (s:List qV) (t7:Int) (n:Nat) (t8:Int) (k0:Unit->Res) (k1:Int->Res):Res:=Z1g (j1K s t7) n (t8) (k0,k1)
noncomputable def j3N:Z1e Unit:=λσ k=>rdN σ 19<|rd1 σ 0 y3 .S λs=>rdC σ 1 272 [] .unit [] λf=>rdI σ 7 λt7=>rdI σ 8 λt8=>j2a s t7 Z1d t8 (λ(_:Unit)=>k (.exit 0) (mkS 19 19 [] [])) (λ(t4:Int)=>k .ret (mkS 19 19 [(4,vI t4)] []))
theorem j6R {W0:Base} {M:Nat->Prop} (hnp:W0.np<=0):Z15 Tryz.prog W0 M (cAt 26 (bo Tryz.f306)) j3N:=j08 follows j00 (Za7 j7a Zat) hnp [] oN [0,1,7,8] [] ([],[]) [(0,[],[])] ([4],[]) λσ k _ h=>rN h λhn h=>rV h λs h0 h=>rC h λf h1 h=>rV h λt7 h7 h=>rV h λt8 h8 h=>⟨_,ZaN (m:=19) hn (sC h0 (sC h1 (sC h7 (sC h8 sN)))) bN,.trans (Z9v (λv:Int=>(mkS 19 19 [(0,v1 y3 s .S),(1,.sclos 272 [] ⟨.unit,false,f,[]⟩),(7,vI t7),(8,vI v)] [])) (j1K s t7) (λ(k:Z84 Unit)=>(((λ(_:Unit)=>k (.exit 0) (mkS 19 19 [] [])),(λ(t4:Int)=>k .ret (mkS 19 19 [(4,vI t4)] []))):(Unit->Res)×(Int->Res))) (λv rec k=>by kernel_rfl) Z1d (t8) k) h⟩
noncomputable def j32 (s:List qV) (f:Unit) (k0:Int->Res):Res:=
 j2a s (nI (List.length s)) Z1d 0
  (λ(_:Unit)=>
   k0 (-1))
  (λ(t:Int)=>
   k0 t)
noncomputable def j7v:Sig Unit:=⟨[.look y3 false,.rclos 272 []],[false],λvals ext k=>av vals y3 λs vals=>av vals .unit λf vals=>nl vals<|nl ext<|j32 s f (λ(r0:Int)=>k [wI r0] [] [])⟩
theorem j7s:Z18 Tryz.prog 306 j7v:=j02 (np:=0) follows j00 (Za7 j7a Zat) [j3N] (oI 26 0 (j6R) oN) false Tryz.func306 λ_ _ k _ h=>aV h λ_ _ _ _ _ h=>aV h λ_ _ _ _ _ h=>nL h λ_ h=>nL h λ_ h=>by subst_vars;exact .trans (by kernel_rfl) h
noncomputable def j12 (s:List qV) (f:Unit) (k0:Bool->Res):Res:=
 j32 s f λ(r:Int)=>
  k0 (decide (r>=0))
noncomputable def j3x:Sig Unit:=⟨[.look y3 false,.rclos 272 []],[false],λvals ext k=>av vals y3 λs vals=>av vals .unit λf vals=>nl vals<|nl ext<|j12 s f (λ(r0:Bool)=>k [wB r0] [] [])⟩
theorem j6o:Z18 Tryz.prog 271 j3x:=j02 (np:=0) follows j00 (Za7 j7s Zat) [] oN false Tryz.func271 λ_ _ k _ h=>aV h λ_ _ _ _ _ h=>aV h λ_ _ _ _ _ h=>nL h λ_ h=>nL h λ_ h=>by subst_vars;exact .trans (by kernel_rfl) h
noncomputable def j0P (l:List qV) (k0:Bool->Res):Res:=
 j07 (nI (List.length l)) 1 8 λ(r:Bool)=>
  bif r then
   j12 l () λ(r1:Bool)=>
    k0 (!r1)
  else
   k0 false
noncomputable def j5I:Sig Unit:=⟨[.look y3 false],[false],λvals ext k=>av vals y3 λl vals=>nl vals<|nl ext<|j0P l (λ(r0:Bool)=>k [wB r0] [] [])⟩
theorem jab:Z18 Tryz.prog 213 j5I:=j02 (np:=0) follows j00 (Za7 j1o (Za7 j6o Zat)) [] oN false Tryz.func213 λ_ _ k _ h=>aV h λ_ _ _ _ _ h=>nL h λ_ h=>nL h λ_ h=>by subst_vars;exact .trans (by delta j0P j0E j3x;refine gz j07 λ_ e=> ?_;rewrite [<-e];refine gz j12 λ_ e=> ?_;rewrite [<-e];kernel_rfl) h
theorem j81:Fns Tryz.prog [(160,j1q),(211,j6U),(212,j3w),(213,j5I)]:=(Za7 j1n (Za7 jbe (Za7 j7c (Za7 jab Zat))))
noncomputable def j2N (s:qS) (k0:Bool->Res):Res:=
 bif (s.1==1) then
  bif ((nI (List.length s.2.2.1))==0) then
   j0P s.2.2.2.1 λ(r:Bool)=>
    k0 r
  else
   k0 false
 else
  bif (s.1==2) then
   j0P s.2.2.1 λ(r1:Bool)=>
    bif r1 then
     j0P s.2.2.2.1 λ(r2:Bool)=>
      k0 r2
    else
     k0 false
  else
   bif (s.1==3) then
    j0P s.2.2.1 λ(r3:Bool)=>
     bif r3 then
      k0 ((nI (List.length s.2.2.2.1))==0)
     else
      k0 false
   else
    bif (s.1==4) then
     bif ((nI (List.length s.2.2.1))==0) then
      k0 ((nI (List.length s.2.2.2.1))==0)
     else
      k0 false
    else
     k0 false
noncomputable def j5r:Z1e Unit:=λσ k=>rdN σ 91<|rdT σ 1 (pB 1)<|rdB σ 1 y17 [.S,.S,.S,.S] λa s=>j2N s (λ(t2:Bool)=>k .ret (mkS 91 91 [(2,vB t2)] []))
theorem j9P {W0:Base} {M:Nat->Prop} (hnp:W0.np<=0):Z15 Tryz.prog W0 M (cAt 15 (bo Tryz.f161)) j5r:=j2s follows j00 j81 hnp [] oN ([],[]) [] ([2],[]) λσ k _ h=>rN h λhn h=>rT h λh1 h=>rB h λa s hb1 h=>⟨_,ZaN (m:=91) hn (sC h1 sN) (bC hb1 bN),.trans (by delta j2N j5I;refine gz j0P λ_ e=> ?_;rewrite [<-e];kernel_rfl) h⟩
noncomputable def j3g (s:qS) (k0:Bool->Res):Res:=
 bif (s.1==5) then
  j3Q s.2.2.2.2 λ(r:Bool)=>
   bif r then
    bif sEq s.2.1 s.2.2.2.2.2.1 then
     bif ((nI (List.length s.2.2.1))==0) then
      k0 ((nI (List.length s.2.2.2.1))==0)
     else
      k0 false
    else
     k0 false
   else
    k0 false
 else
  j0c s.2.1 λ(r1:Bool)=>
   bif !r1 then
    k0 false
   else
    j0b s.2.2.2.2 (0,eS,[],[],eS,eS) λ(r2:Bool)=>
     bif !r2 then
      k0 false
     else
      j2N s λ(t:Bool)=>
       k0 t
noncomputable def j6a:Sig Unit:=⟨[.look y17 true],[false],λvals ext k=>av vals y17 λs vals=>nl vals<|nl ext<|j3g s (λ(r0:Bool)=>k [wB r0] [] [])⟩
theorem jaN:Z18 Tryz.prog 161 j6a:=j02 (np:=0) follows j00 j81 [j5r] (oI 15 0 (j9P) oN) false Tryz.func161 λ_ _ k _ h=>aV h λ_ _ _ _ _ h=>nL h λ_ h=>nL h λ_ h=>by subst_vars;exact .trans (by delta j3g j6U j1q j3w j5r;refine gz j3Q λ_ e=> ?_;rewrite [<-e];refine gz j0c λ_ e=> ?_;rewrite [<-e];refine gz j0b λ_ e=> ?_;rewrite [<-e];refine gz j2N λ_ e=> ?_;rewrite [<-e];kernel_rfl) h
noncomputable def j2d (s:qS) (k0:qS->Res):Res:=
 j3a s.2.2.1 λ(r:List qV)=>
  j3a s.2.2.2.1 λ(r1:List qV)=>
   j4V s.2.2.2.2 λ(r2:qG)=>
    k0 (s.1,s.2.1,r,r1,r2)
noncomputable def j7g:Sig Unit:=⟨[.borrow y17 true],[true],λvals ext k=>av vals y17 λs vals=>nl vals<|nl ext<|j2d s (λ(r0:qS)=>k [⟨y17,true,r0,[.O,.O,.O,.O]⟩] [] [])⟩
theorem j9D:Z18 Tryz.prog 216 j7g:=j02 (np:=0) follows j00 (Za7 j9E (Za7 jac Zat)) [] oN false Tryz.func216 λ_ _ k _ h=>aV h λ_ _ _ _ _ h=>nL h λ_ h=>nL h λ_ h=>by subst_vars;exact .trans (by delta j2d j7h j7L;refine gz j3a λ_ e=> ?_;rewrite [<-e];refine gz j4V λ_ e=> ?_;rewrite [<-e];kernel_rfl) h
end Go.PI.G
namespace Go.PI.G
open Go Go.PI Go.Proofs
open Go.Code (pl pr)
noncomputable def j39 (p:qS×qL×qL) (k0:(qS×qL×qL)->Res):Res:=
 j2d p.1 λ(r:qS)=>
  j0v p.2.1 λ(r1:qL)=>
   j0v p.2.2 λ(r2:qL)=>
    k0 (r,r1,r2)
noncomputable def ja1:Sig Unit:=⟨[.borrow y19 true],[true],λvals ext k=>av vals y19 λp vals=>nl vals<|nl ext<|j39 p (λ(r0:qS×qL×qL)=>k [⟨y19,true,r0,[.O,.O,.O,.O,.O,.O]⟩] [] [])⟩
theorem j7b:Z18 Tryz.prog 164 ja1:=j02 (np:=0) follows j00 (Za7 j9D (Za7 j4s Zat)) [] oN false Tryz.func164 λ_ _ k _ h=>aV h λ_ _ _ _ _ h=>nL h λ_ h=>nL h λ_ h=>by subst_vars;exact .trans (by delta j39 j7g j6W;refine gz j2d λ_ e=> ?_;rewrite [<-e];refine gz j0v λ_ e=> ?_;rewrite [<-e];kernel_rfl) h
noncomputable def j13 (t12:List (qS×qL×qL)) (t13:Int) (t14:Int) (out:Int×Int×List (qS×qL×qL)) (rec:Int->(Int×Int×List (qS×qL×qL))->Res) (k0:(Int×Int×List (qS×qL×qL))->Res):Res:=
 bif decide (t14<t13) then
  bif inb t14 (List.length t12) then
   j39 (nth ((0,eS,[],[],0,eS,[],[],eS,eS),[],[]) t12 t14) λ(r:qS×qL×qL)=>
    bif lim ((List.length out.2.2)+1) then
     rec (Z9L (t14+1)) (out.1,out.2.1,(out.2.2++[r]))
    else none
  else none
 else
  k0 out
noncomputable def j3o (t12:List (qS×qL×qL)) (t13:Int):(Int×(Int×Int×List (qS×qL×qL)))->(Int×(Int×Int×List (qS×qL×qL))->Res)->(((Int×Int×List (qS×qL×qL))->Res))->Res:=λv rec q=>j13 t12 t13 v.1 v.2 (λt14 out=>rec (t14,out)) q
noncomputable def j49 (t12:List (qS×qL×qL)) (t13:Int) (n:Nat) (t14:Int) (out:Int×Int×List (qS×qL×qL)) (k0:(Int×Int×List (qS×qL×qL))->Res):Res:=Z1g (j3o t12 t13) n (t14,out) (k0)
noncomputable def j61:Z1e Unit:=λσ k=>rdN σ 27<|rdT σ 2 (pB 2)<|rdT σ 3 (pB 3)<|rd1 σ 12 y20 .S λt12=>rdI σ 13 λt13=>rdI σ 14 λt14=>rdB σ 2 y22 [.O] λa t2=>rdB σ 3 y22 [.O] λa1 out=>j49 t12 t13 Z1d t14 out (λ(out1:Int×Int×List (qS×qL×qL))=>k (.exit 0) (mkS 27 27 [(2,pB 2),(3,pB 3)] [(2,⟨y22,a,t2,[.O]⟩),(3,⟨y22,a1,out1,[.O]⟩)]))
theorem j8B {W0:Base} {M:Nat->Prop} (hnp:W0.np<=0):Z15 Tryz.prog W0 M (cAt 58 (bo Tryz.f92)) j61:=j08 follows j00 (Za7 j7b Zat) hnp [] oN [2,3,12,13,14] [2,3] ([],[]) [(0,[2,3],[2,3])] ([],[]) λσ k _ h=>rN h λhn h=>rT h λh2 h=>rT h λh3 h=>rV h λt12 h12 h=>rV h λt13 h13 h=>rV h λt14 h14 h=>rB h λa t2 hb2 h=>rB h λa1 out hb3 h=>⟨_,ZaN (m:=27) hn (sC h2 (sC h3 (sC h12 (sC h13 (sC h14 sN))))) (bC hb2 (bC hb3 bN)),.trans (Z9v (λv:Int×(Int×Int×List (qS×qL×qL))=>(mkS 27 27 [(2,pB 2),(3,pB 3),(12,v1 y20 t12 .S),(13,vI t13),(14,vI v.1)] [(2,⟨y22,a,t2,[.O]⟩),(3,⟨y22,a1,v.2,[.O]⟩)])) (j3o t12 t13) (λ(k:Z84 Unit)=>(((λ(out1:Int×Int×List (qS×qL×qL))=>k (.exit 0) (mkS 27 27 [(2,pB 2),(3,pB 3)] [(2,⟨y22,a,t2,[.O]⟩),(3,⟨y22,a1,out1,[.O]⟩)]))):((Int×Int×List (qS×qL×qL))->Res))) (λv rec k=>by kernel_rfl) Z1d (t14,out) k) h⟩
noncomputable def j2P (b:Int×Int×List (qS×qL×qL)) (k0:(Int×Int×List (qS×qL×qL))->Res):Res:=
 j49 b.2.2 (nI (List.length b.2.2)) Z1d 0 (b.1,b.2.1,[]) λ(out:Int×Int×List (qS×qL×qL))=>
  k0 out
noncomputable def j6V:Sig Unit:=⟨[.borrow y22 true],[true],λvals ext k=>av vals y22 λb vals=>nl vals<|nl ext<|j2P b (λ(r0:Int×Int×List (qS×qL×qL))=>k [⟨y22,true,r0,[.O]⟩] [] [])⟩
theorem j9d:Z18 Tryz.prog 92 j6V:=j02 (np:=0) follows j00 (Za7 j7b Zat) [j61] (oI 58 0 (j8B) oN) false Tryz.func92 λ_ _ k _ h=>aV h λ_ _ _ _ _ h=>nL h λ_ h=>nL h λ_ h=>by subst_vars;exact .trans (by kernel_rfl) h
end Go.PI.G
namespace Go.PI.G
open Go Go.PI Go.Proofs
open Go.Code (pl pr)
noncomputable def j1j (t5:qL) (t6:Int) (t7:Int) (rec:Int->Res) (k0:Unit->Res) (k1:Unit->Res):Res:=
 bif decide (t7<t6) then
  bif inb t7 (List.length t5) then
   j0d (nth eS t5 t7) λ(r:Bool)=>
    bif !r then
     k1 ()
    else
     rec (Z9L (t7+1))
  else none
 else
  k0 ()
noncomputable def j3K (t5:qL) (t6:Int):Int->(Int->Res)->((Unit->Res)×(Unit->Res))->Res:=λv rec q=>j1j t5 t6 v (λt7=>rec (t7)) q.1 q.2
noncomputable def j4L (t5:qL) (t6:Int) (n:Nat) (t7:Int) (k0:Unit->Res) (k1:Unit->Res):Res:=Z1g (j3K t5 t6) n (t7) (k0,k1)
noncomputable def j6n:Z1e Unit:=λσ k=>rdN σ 18<|rd1 σ 0 y0 .S λl=>rd1 σ 5 y0 .S λt5=>rdI σ 6 λt6=>rdI σ 7 λt7=>j4L t5 t6 Z1d t7 (λ(_:Unit)=>k (.exit 0) (mkS 18 18 [(0,v1 y0 l .S)] [])) (λ(_:Unit)=>k .ret (mkS 18 18 [(2,vB false)] []))
theorem j99 {W0:Base} {M:Nat->Prop} (hnp:W0.np<=0):Z15 Tryz.prog W0 M (cAt 26 (bo Tryz.f156)) j6n:=j08 follows j00 (Za7 j0Z Zat) hnp [] oN [0,5,6,7] [] ([],[]) [(0,[0],[])] ([2],[]) λσ k _ h=>rN h λhn h=>rV h λl h0 h=>rV h λt5 h5 h=>rV h λt6 h6 h=>rV h λt7 h7 h=>⟨_,ZaN (m:=18) hn (sC h0 (sC h5 (sC h6 (sC h7 sN)))) bN,.trans (Z9v (λv:Int=>(mkS 18 18 [(0,v1 y0 l .S),(5,v1 y0 t5 .S),(6,vI t6),(7,vI v)] [])) (j3K t5 t6) (λ(k:Z84 Unit)=>(((λ(_:Unit)=>k (.exit 0) (mkS 18 18 [(0,v1 y0 l .S)] [])),(λ(_:Unit)=>k .ret (mkS 18 18 [(2,vB false)] []))):(Unit->Res)×(Unit->Res))) (λv rec k=>by kernel_rfl) Z1d (t7) k) h⟩
noncomputable def j2i (l:qL) (k0:Bool->Res):Res:=
 j4L l (nI (List.length l)) Z1d 0
  (λ(_:Unit)=>
   k0 (decide ((nI (List.length l))<=8)))
  (λ(_:Unit)=>
   k0 false)
noncomputable def j5j:Sig Unit:=⟨[.look y0 false],[false],λvals ext k=>av vals y0 λl vals=>nl vals<|nl ext<|j2i l (λ(r0:Bool)=>k [wB r0] [] [])⟩
theorem j9L:Z18 Tryz.prog 156 j5j:=j02 (np:=0) follows j00 (Za7 j0Z Zat) [j6n] (oI 26 0 (j99) oN) false Tryz.func156 λ_ _ k _ h=>aV h λ_ _ _ _ _ h=>nL h λ_ h=>nL h λ_ h=>by subst_vars;exact .trans (by kernel_rfl) h
theorem j5A:Fns Tryz.prog [(155,j6b),(156,j5j)]:=(Za7 jaU (Za7 j9L Zat))
noncomputable def j2t (b:Int×Int×List (qS×qL×qL)) (k0:Bool->Res):Res:=
 bif decide (b.1<1) then
  k0 true
 else
  bif decide (b.1>400) then
   k0 true
  else
   bif decide (b.2.1<0) then
    k0 true
   else
    bif decide (b.2.1>=b.1) then
     k0 true
    else
     k0 (decide ((nI (List.length b.2.2))>60))
noncomputable def j36:Z1e Unit:=λσ k=>rdN σ 55<|rdT σ 1 (pB 1)<|rdB σ 1 y22 [.S] λa b=>j2t b (λ(t30:Bool)=>k .normal (mkS 55 55 [(1,pB 1),(30,vB t30)] [(1,⟨y22,a,b,[.S]⟩)]))
theorem j9q {W0:Base} {M:Nat->Prop} (hnp:W0.np<=0):Z15 Tryz.prog W0 M (cAt 12 (bo Tryz.f85)) j36:=j2s follows j00 j5A hnp [] oN ([1,30],[1]) [] ([],[]) λσ k _ h=>rN h λhn h=>rT h λh1 h=>rB h λa b hb1 h=>⟨_,ZaN (m:=55) hn (sC h1 sN) (bC hb1 bN),.trans (by kernel_rfl) h⟩
noncomputable def j0W (t32:List (qS×qL×qL)) (t33:Int) (t34:Int) (rec:Int->Res) (k0:Unit->Res) (k1:Unit->Res):Res:=
 bif decide (t34<t33) then
  bif inb t34 (List.length t32) then
   j3n (nth ((0,eS,[],[],0,eS,[],[],eS,eS),[],[]) t32 t34).1 λ(r:Bool)=>
    bif !r then
     k1 ()
    else
     j2i (nth ((0,eS,[],[],0,eS,[],[],eS,eS),[],[]) t32 t34).2.1 λ(r1:Bool)=>
      bif !r1 then
       k1 ()
      else
       j2i (nth ((0,eS,[],[],0,eS,[],[],eS,eS),[],[]) t32 t34).2.2 λ(r2:Bool)=>
        bif !r2 then
         k1 ()
        else
         rec (Z9L (t34+1))
  else none
 else
  k0 ()
noncomputable def j2I (t32:List (qS×qL×qL)) (t33:Int):Int->(Int->Res)->((Unit->Res)×(Unit->Res))->Res:=λv rec q=>j0W t32 t33 v (λt34=>rec (t34)) q.1 q.2
noncomputable def j3y (t32:List (qS×qL×qL)) (t33:Int) (n:Nat) (t34:Int) (k0:Unit->Res) (k1:Unit->Res):Res:=Z1g (j2I t32 t33) n (t34) (k0,k1)
noncomputable def j4O:Z1e Unit:=λσ k=>rdN σ 55<|rd1 σ 32 y20 .S λt32=>rdI σ 33 λt33=>rdI σ 34 λt34=>j3y t32 t33 Z1d t34 (λ(_:Unit)=>k (.exit 0) (mkS 55 55 [] [])) (λ(_:Unit)=>k .ret (mkS 55 55 [(2,vB false)] []))
theorem j9p {W0:Base} {M:Nat->Prop} (hnp:W0.np<=0):Z15 Tryz.prog W0 M (cAt 58 (bo Tryz.f85)) j4O:=j08 follows j00 j5A hnp [j36] oN [32,33,34] [] ([],[]) [(0,[],[])] ([2],[]) λσ k _ h=>rN h λhn h=>rV h λt32 h32 h=>rV h λt33 h33 h=>rV h λt34 h34 h=>⟨_,ZaN (m:=55) hn (sC h32 (sC h33 (sC h34 sN))) bN,.trans (Z9v (λv:Int=>(mkS 55 55 [(32,v1 y20 t32 .S),(33,vI t33),(34,vI v)] [])) (j2I t32 t33) (λ(k:Z84 Unit)=>(((λ(_:Unit)=>k (.exit 0) (mkS 55 55 [] [])),(λ(_:Unit)=>k .ret (mkS 55 55 [(2,vB false)] []))):(Unit->Res)×(Unit->Res))) (λv rec k=>by delta j2I j0W j6b j5j;refine gz j3n λ_ e=> ?_;rewrite [<-e];refine gz j2i λ_ e=> ?_;rewrite [<-e];kernel_rfl) Z1d (t34) k) h⟩
noncomputable def j2U (b:Int×Int×List (qS×qL×qL)) (k0:Bool->Res):Res:=
 j2t b λ(t:Bool)=>
  bif t then
   k0 false
  else
   j3y b.2.2 (nI (List.length b.2.2)) Z1d 0
    (λ(_:Unit)=>
     k0 true)
    (λ(_:Unit)=>
     k0 false)
noncomputable def j5M:Sig Unit:=⟨[.look y22 true],[false],λvals ext k=>av vals y22 λb vals=>nl vals<|nl ext<|j2U b (λ(r0:Bool)=>k [wB r0] [] [])⟩
theorem jak:Z18 Tryz.prog 85 j5M:=j02 (np:=0) follows j00 j5A [j36,j4O] (oI 12 0 (j9q) (oI 58 1 (j9p) oN)) false Tryz.func85 λ_ _ k _ h=>aV h λ_ _ _ _ _ h=>nL h λ_ h=>nL h λ_ h=>by subst_vars;exact .trans (by delta j2U j36 j4O;refine gz j2t λ_ e=> ?_;rewrite [<-e];refine gz j3y λ_ e=> ?_;rewrite [<-e];kernel_rfl) h
noncomputable def j5D (s:qB) (k0:Bool->Res):Res:=
 j0c s λ(r:Bool)=>
  k0 (!r)
noncomputable def j9w:Sig Unit:=⟨[.look .str false],[false],λvals ext k=>av vals .str λs vals=>nl vals<|nl ext<|j5D s (λ(r0:Bool)=>k [wB r0] [] [])⟩
theorem j6z:Z18 Tryz.prog 215 j9w:=j02 (np:=0) follows j00 (Za7 j1n Zat) [] oN false Tryz.func215 λ_ _ k _ h=>aV h λ_ _ _ _ _ h=>nL h λ_ h=>nL h λ_ h=>by subst_vars;exact .trans (by kernel_rfl) h
noncomputable def j0i (s:qL) (t7:Int) (t8:Int) (rec:Int->Res) (k0:Unit->Res) (k1:Int->Res):Res:=
 bif decide (t8<t7) then
  bif inb t8 (List.length s) then
   j5D (nth eS s t8) λ(r:Bool)=>
    bif r then
     k1 t8
    else
     rec (Z9L (t8+1))
  else none
 else
  k0 ()
noncomputable def j18 (s:qL) (t7:Int):Int->(Int->Res)->((Unit->Res)×(Int->Res))->Res:=λv rec q=>j0i s t7 v (λt8=>rec (t8)) q.1 q.2
noncomputable def j1t (s:qL) (t7:Int) (n:Nat) (t8:Int) (k0:Unit->Res) (k1:Int->Res):Res:=Z1g (j18 s t7) n (t8) (k0,k1)
noncomputable def j2Z:Z1e Unit:=λσ k=>rdN σ 19<|rd1 σ 0 y0 .S λs=>rdC σ 1 215 [] .unit [] λf=>rdI σ 7 λt7=>rdI σ 8 λt8=>j1t s t7 Z1d t8 (λ(_:Unit)=>k (.exit 0) (mkS 19 19 [] [])) (λ(t4:Int)=>k .ret (mkS 19 19 [(4,vI t4)] []))
theorem j5Y {W0:Base} {M:Nat->Prop} (hnp:W0.np<=0):Z15 Tryz.prog W0 M (cAt 26 (bo Tryz.f274)) j2Z:=j08 follows j00 (Za7 j6z Zat) hnp [] oN [0,1,7,8] [] ([],[]) [(0,[],[])] ([4],[]) λσ k _ h=>rN h λhn h=>rV h λs h0 h=>rC h λf h1 h=>rV h λt7 h7 h=>rV h λt8 h8 h=>⟨_,ZaN (m:=19) hn (sC h0 (sC h1 (sC h7 (sC h8 sN)))) bN,.trans (Z9v (λv:Int=>(mkS 19 19 [(0,v1 y0 s .S),(1,.sclos 215 [] ⟨.unit,false,f,[]⟩),(7,vI t7),(8,vI v)] [])) (j18 s t7) (λ(k:Z84 Unit)=>(((λ(_:Unit)=>k (.exit 0) (mkS 19 19 [] [])),(λ(t4:Int)=>k .ret (mkS 19 19 [(4,vI t4)] []))):(Unit->Res)×(Int->Res))) (λv rec k=>by kernel_rfl) Z1d (t8) k) h⟩
noncomputable def j2b (s:qL) (f:Unit) (k0:Int->Res):Res:=
 j1t s (nI (List.length s)) Z1d 0
  (λ(_:Unit)=>
   k0 (-1))
  (λ(t:Int)=>
   k0 t)
noncomputable def j6v:Sig Unit:=⟨[.look y0 false,.rclos 215 []],[false],λvals ext k=>av vals y0 λs vals=>av vals .unit λf vals=>nl vals<|nl ext<|j2b s f (λ(r0:Int)=>k [wI r0] [] [])⟩
theorem j6p:Z18 Tryz.prog 274 j6v:=j02 (np:=0) follows j00 (Za7 j6z Zat) [j2Z] (oI 26 0 (j5Y) oN) false Tryz.func274 λ_ _ k _ h=>aV h λ_ _ _ _ _ h=>aV h λ_ _ _ _ _ h=>nL h λ_ h=>nL h λ_ h=>by subst_vars;exact .trans (by kernel_rfl) h
noncomputable def j1s (s:qL) (f:Unit) (k0:Bool->Res):Res:=
 j2b s f λ(r:Int)=>
  k0 (decide (r>=0))
noncomputable def j5L:Sig Unit:=⟨[.look y0 false,.rclos 215 []],[false],λvals ext k=>av vals y0 λs vals=>av vals .unit λf vals=>nl vals<|nl ext<|j1s s f (λ(r0:Bool)=>k [wB r0] [] [])⟩
theorem j5B:Z18 Tryz.prog 214 j5L:=j02 (np:=0) follows j00 (Za7 j6p Zat) [] oN false Tryz.func214 λ_ _ k _ h=>aV h λ_ _ _ _ _ h=>aV h λ_ _ _ _ _ h=>nL h λ_ h=>nL h λ_ h=>by subst_vars;exact .trans (by kernel_rfl) h
noncomputable def j2c (l:qL) (k0:Bool->Res):Res:=
 bif decide ((nI (List.length l))<=8) then
  j1s l () λ(r:Bool)=>
   k0 (!r)
 else
  k0 false
noncomputable def j5b:Sig Unit:=⟨[.look y0 false],[false],λvals ext k=>av vals y0 λl vals=>nl vals<|nl ext<|j2c l (λ(r0:Bool)=>k [wB r0] [] [])⟩
theorem j9C:Z18 Tryz.prog 162 j5b:=j02 (np:=0) follows j00 (Za7 j5B Zat) [] oN false Tryz.func162 λ_ _ k _ h=>aV h λ_ _ _ _ _ h=>nL h λ_ h=>nL h λ_ h=>by subst_vars;exact .trans (by kernel_rfl) h
theorem j7A:Fns Tryz.prog [(161,j6a),(162,j5b),(163,j0E)]:=(Za7 jaN (Za7 j9C (Za7 j1o Zat)))
noncomputable def j0U (t6:List (qS×qL×qL)) (t7:Int) (t8:Int) (rec:Int->Res) (k0:Unit->Res) (k1:Unit->Res):Res:=
 bif decide (t8<t7) then
  bif inb t8 (List.length t6) then
   j3g (nth ((0,eS,[],[],0,eS,[],[],eS,eS),[],[]) t6 t8).1 λ(r:Bool)=>
    bif !r then
     k1 ()
    else
     j2c (nth ((0,eS,[],[],0,eS,[],[],eS,eS),[],[]) t6 t8).2.1 λ(r1:Bool)=>
      bif !r1 then
       k1 ()
      else
       j2c (nth ((0,eS,[],[],0,eS,[],[],eS,eS),[],[]) t6 t8).2.2 λ(r2:Bool)=>
        bif !r2 then
         k1 ()
        else
         rec (Z9L (t8+1))
  else none
 else
  k0 ()
noncomputable def j2F (t6:List (qS×qL×qL)) (t7:Int):Int->(Int->Res)->((Unit->Res)×(Unit->Res))->Res:=λv rec q=>j0U t6 t7 v (λt8=>rec (t8)) q.1 q.2
noncomputable def j3t (t6:List (qS×qL×qL)) (t7:Int) (n:Nat) (t8:Int) (k0:Unit->Res) (k1:Unit->Res):Res:=Z1g (j2F t6 t7) n (t8) (k0,k1)
noncomputable def j4M:Z1e Unit:=λσ k=>rdN σ 46<|rdT σ 1 (pB 1)<|rd1 σ 6 y20 .S λt6=>rdI σ 7 λt7=>rdI σ 8 λt8=>rdB σ 1 y22 [.S] λa b=>j3t t6 t7 Z1d t8 (λ(_:Unit)=>k (.exit 0) (mkS 46 46 [(1,pB 1)] [(1,⟨y22,a,b,[.S]⟩)])) (λ(_:Unit)=>k .ret (mkS 46 46 [(2,vB false)] []))
theorem j9j {W0:Base} {M:Nat->Prop} (hnp:W0.np<=0):Z15 Tryz.prog W0 M (cAt 26 (bo Tryz.f91)) j4M:=j08 follows j00 j7A hnp [] oN [1,6,7,8] [1] ([],[]) [(0,[1],[1])] ([2],[]) λσ k _ h=>rN h λhn h=>rT h λh1 h=>rV h λt6 h6 h=>rV h λt7 h7 h=>rV h λt8 h8 h=>rB h λa b hb1 h=>⟨_,ZaN (m:=46) hn (sC h1 (sC h6 (sC h7 (sC h8 sN)))) (bC hb1 bN),.trans (Z9v (λv:Int=>(mkS 46 46 [(1,pB 1),(6,v1 y20 t6 .S),(7,vI t7),(8,vI v)] [(1,⟨y22,a,b,[.S]⟩)])) (j2F t6 t7) (λ(k:Z84 Unit)=>(((λ(_:Unit)=>k (.exit 0) (mkS 46 46 [(1,pB 1)] [(1,⟨y22,a,b,[.S]⟩)])),(λ(_:Unit)=>k .ret (mkS 46 46 [(2,vB false)] []))):(Unit->Res)×(Unit->Res))) (λv rec k=>by delta j2F j0U j6a j5b;refine gz j3g λ_ e=> ?_;rewrite [<-e];refine gz j2c λ_ e=> ?_;rewrite [<-e];kernel_rfl) Z1d (t8) k) h⟩
noncomputable def j2M (b:Int×Int×List (qS×qL×qL)) (k0:Bool->Res):Res:=
 j3t b.2.2 (nI (List.length b.2.2)) Z1d 0
  (λ(_:Unit)=>
   j07 b.1 1 400 λ(r:Bool)=>
    bif r then
     j07 b.2.1 0 (Z9L (b.1-1)) λ(r1:Bool)=>
      bif r1 then
       k0 (decide ((nI (List.length b.2.2))<=60))
      else
       k0 false
    else
     k0 false)
  (λ(_:Unit)=>
   k0 false)
noncomputable def j7J:Sig Unit:=⟨[.look y22 true],[false],λvals ext k=>av vals y22 λb vals=>nl vals<|nl ext<|j2M b (λ(r0:Bool)=>k [wB r0] [] [])⟩
theorem ja9:Z18 Tryz.prog 91 j7J:=j02 (np:=0) follows j00 j7A [j4M] (oI 26 0 (j9j) oN) false Tryz.func91 λ_ _ k _ h=>aV h λ_ _ _ _ _ h=>nL h λ_ h=>nL h λ_ h=>by subst_vars;exact .trans (by delta j2M j4M j0E;refine gz j3t λ_ e=> ?_;rewrite [<-e];refine gz j07 λ_ e=> ?_;rewrite [<-e];kernel_rfl) h
end Go.PI.G
namespace Go.PI.G
open Go Go.PI Go.Proofs
open Go.Code (pl pr)
noncomputable def j2w (t6:qL) (t7:Int) (p:qL) (t8:Int) (rec:Int->Res) (k0:Unit->Res) (k1:Unit->Res):Res:=
 bif decide (t8<t7) then
  bif inb t8 (List.length t6) then
   j0d (nth eS t6 t8) λ(r:Bool)=>
    bif !r then
     k1 ()
    else
     bif decide (t8>0) then
      bif inb (Z9L (t8-1)) (List.length p) then
       bif sGe (nth eS p (Z9L (t8-1))) (nth eS t6 t8) then
        k1 ()
       else
        rec (Z9L (t8+1))
      else none
     else
      rec (Z9L (t8+1))
  else none
 else
  k0 ()
noncomputable def j5l (t6:qL) (t7:Int) (p:qL):Int->(Int->Res)->((Unit->Res)×(Unit->Res))->Res:=λv rec q=>j2w t6 t7 p v (λt8=>rec (t8)) q.1 q.2
noncomputable def j6d (t6:qL) (t7:Int) (p:qL) (n:Nat) (t8:Int) (k0:Unit->Res) (k1:Unit->Res):Res:=Z1g (j5l t6 t7 p) n (t8) (k0,k1)
noncomputable def j7R:Z1e Unit:=λσ k=>rdN σ 35<|rdT σ 1 (pB 1)<|rd1 σ 6 y0 .S λt6=>rdI σ 7 λt7=>rdI σ 8 λt8=>rdB σ 1 y0 [.S] λa p=>j6d t6 t7 p Z1d t8 (λ(_:Unit)=>k (.exit 0) (mkS 35 35 [(1,pB 1)] [(1,⟨y0,a,p,[.S]⟩)])) (λ(_:Unit)=>k .ret (mkS 35 35 [(2,vB false)] []))
theorem jau {W0:Base} {M:Nat->Prop} (hnp:W0.np<=0):Z15 Tryz.prog W0 M (cAt 26 (bo Tryz.f84)) j7R:=j08 follows j00 (Za7 j0Z Zat) hnp [] oN [1,6,7,8] [1] ([],[]) [(0,[1],[1])] ([2],[]) λσ k _ h=>rN h λhn h=>rT h λh1 h=>rV h λt6 h6 h=>rV h λt7 h7 h=>rV h λt8 h8 h=>rB h λa p hb1 h=>⟨_,ZaN (m:=35) hn (sC h1 (sC h6 (sC h7 (sC h8 sN)))) (bC hb1 bN),.trans (Z9v (λv:Int=>(mkS 35 35 [(1,pB 1),(6,v1 y0 t6 .S),(7,vI t7),(8,vI v)] [(1,⟨y0,a,p,[.S]⟩)])) (j5l t6 t7 p) (λ(k:Z84 Unit)=>(((λ(_:Unit)=>k (.exit 0) (mkS 35 35 [(1,pB 1)] [(1,⟨y0,a,p,[.S]⟩)])),(λ(_:Unit)=>k .ret (mkS 35 35 [(2,vB false)] []))):(Unit->Res)×(Unit->Res))) (λv rec k=>by kernel_rfl) Z1d (t8) k) h⟩
noncomputable def j33 (p:qL) (k0:Bool->Res):Res:=
 j6d p (nI (List.length p)) p Z1d 0
  (λ(_:Unit)=>
   k0 (decide ((nI (List.length p))<=6)))
  (λ(_:Unit)=>
   k0 false)
noncomputable def j5g:Sig Unit:=⟨[.look y0 true],[false],λvals ext k=>av vals y0 λp vals=>nl vals<|nl ext<|j33 p (λ(r0:Bool)=>k [wB r0] [] [])⟩
theorem j8v:Z18 Tryz.prog 84 j5g:=j02 (np:=0) follows j00 (Za7 j0Z Zat) [j7R] (oI 26 0 (jau) oN) false Tryz.func84 λ_ _ k _ h=>aV h λ_ _ _ _ _ h=>nL h λ_ h=>nL h λ_ h=>by subst_vars;exact .trans (by kernel_rfl) h
noncomputable def j4R (p:qL) (table:qB) (k0:Bool->Res):Res:=
 j33 p λ(r:Bool)=>
  bif r then
   j4p p table λ(r1:Bool)=>
    k0 r1
  else
   k0 false
noncomputable def j7w:Sig Unit:=⟨[.look y0 true,.look .str false],[false],λvals ext k=>av vals y0 λp vals=>av vals .str λtable vals=>nl vals<|nl ext<|j4R p table (λ(r0:Bool)=>k [wB r0] [] [])⟩
theorem jbG:Z18 Tryz.prog 86 j7w:=j02 (np:=0) follows j00 (Za7 j8v (Za7 jaW Zat)) [] oN false Tryz.func86 λ_ _ k _ h=>aV h λ_ _ _ _ _ h=>aV h λ_ _ _ _ _ h=>nL h λ_ h=>nL h λ_ h=>by subst_vars;exact .trans (by delta j4R j5g j8k;refine gz j33 λ_ e=> ?_;rewrite [<-e];refine gz j4p λ_ e=> ?_;rewrite [<-e];kernel_rfl) h
noncomputable def j2X (p:qS×qL×qL) (k0:(qS×qL×qL)->Res):Res:=
 Z88
  (j0S p.1 λ(r:qS)=>
   Z88
    (Z88
     (bif lim (0+(List.length p.2.1)) then
      bif lim (0+(List.length p.2.2)) then
       k0 (r,p.2.1,p.2.2)
      else none
     else none)
     (bif lim (0+(List.length p.2.1)) then
      bif lim (0+(List.length p.2.2)) then
       k0 (r,p.2.1,p.2.2)
      else none
     else none))
    (bif lim (0+(List.length p.2.1)) then
     bif lim (0+(List.length p.2.2)) then
      k0 (r,p.2.1,p.2.2)
     else none
    else none))
  (Z88
   (Z88
    (j0S p.1 λ(r1:qS)=>
     Z88
      (bif lim (0+(List.length p.2.1)) then
       bif lim (0+(List.length p.2.2)) then
        k0 (r1,p.2.1,p.2.2)
       else none
      else none)
      (bif lim (0+(List.length p.2.1)) then
       bif lim (0+(List.length p.2.2)) then
        k0 (r1,p.2.1,p.2.2)
       else none
      else none))
    (j0S p.1 λ(r2:qS)=>
     bif lim (0+(List.length p.2.1)) then
      bif lim (0+(List.length p.2.2)) then
       k0 (r2,p.2.1,p.2.2)
      else none
     else none))
   (Z88
    (j0S p.1 λ(r3:qS)=>
     bif lim (0+(List.length p.2.1)) then
      bif lim (0+(List.length p.2.2)) then
       k0 (r3,p.2.1,p.2.2)
      else none
     else none)
    (j0S p.1 λ(r4:qS)=>
     bif lim (0+(List.length p.2.1)) then
      bif lim (0+(List.length p.2.2)) then
       k0 (r4,p.2.1,p.2.2)
      else none
     else none)))
noncomputable def j5P:Sig Unit:=⟨[.borrow y19 true],[true],λvals ext k=>av vals y19 λp vals=>nl vals<|nl ext<|j2X p (λ(r0:qS×qL×qL)=>k [⟨y19,true,r0,[.O,.O,.O,.O,.O,.O]⟩] [] [])⟩
theorem jao:Z18 Tryz.prog 87 j5P:=j02 (np:=0) follows j00 (Za7 jan Zat) [] oN false Tryz.func87 λ_ _ k _ h=>aV h λ_ _ _ _ _ h=>nL h λ_ h=>nL h λ_ h=>by subst_vars;exact .trans (by delta j2X j7N;refine gz j0S λ_ e=> ?_;rewrite [<-e];kernel_rfl) h
theorem j79:Fns Tryz.prog [(84,j5g),(85,j5M),(86,j7w),(87,j5P)]:=(Za7 j8v (Za7 jak (Za7 jbG (Za7 jao Zat))))
noncomputable def j0N (t23:List (qS×qL×qL)) (t24:Int) (p:qL) (t25:Int) (out:Int×Int×List (qS×qL×qL)) (rec:Int->(Int×Int×List (qS×qL×qL))->Res) (k0:(Int×Int×List (qS×qL×qL))->Res):Res:=
 bif decide (t25<t24) then
  bif inb t25 (List.length t23) then
   j4R p (nth ((0,eS,[],[],0,eS,[],[],eS,eS),[],[]) t23 t25).1.2.1 λ(r:Bool)=>
    bif r then
     j2X (nth ((0,eS,[],[],0,eS,[],[],eS,eS),[],[]) t23 t25) λ(r1:qS×qL×qL)=>
      bif lim ((List.length out.2.2)+1) then
       rec (Z9L (t25+1)) (out.1,out.2.1,(out.2.2++[r1]))
      else none
    else
     rec (Z9L (t25+1)) out
  else none
 else
  k0 out
noncomputable def j2x (t23:List (qS×qL×qL)) (t24:Int) (p:qL):(Int×(Int×Int×List (qS×qL×qL)))->(Int×(Int×Int×List (qS×qL×qL))->Res)->(((Int×Int×List (qS×qL×qL))->Res))->Res:=λv rec q=>j0N t23 t24 p v.1 v.2 (λt25 out=>rec (t25,out)) q
noncomputable def j34 (t23:List (qS×qL×qL)) (t24:Int) (p:qL) (n:Nat) (t25:Int) (out:Int×Int×List (qS×qL×qL)) (k0:(Int×Int×List (qS×qL×qL))->Res):Res:=Z1g (j2x t23 t24 p) n (t25,out) (k0)
noncomputable def j4g:Z1e Unit:=λσ k=>rdN σ 43<|rdT σ 2 (pB 2)<|rdT σ 4 (pB 4)<|rdT σ 5 (pB 5)<|rd1 σ 23 y20 .S λt23=>rdI σ 24 λt24=>rdI σ 25 λt25=>rdB σ 2 y0 [.S] λa p=>rdB σ 4 y22 [.O] λa1 t4=>rdB σ 5 y22 [.O] λa2 out=>j34 t23 t24 p Z1d t25 out (λ(out1:Int×Int×List (qS×qL×qL))=>k (.exit 0) (mkS 43 43 [(4,pB 4),(5,pB 5)] [(4,⟨y22,a1,t4,[.O]⟩),(5,⟨y22,a2,out1,[.O]⟩)]))
theorem j98 {W0:Base} {M:Nat->Prop} (hnp:W0.np<=0):Z15 Tryz.prog W0 M (cAt 122 (bo Tryz.f17)) j4g:=j08 follows j00 j79 hnp [] oN [2,4,5,23,24,25] [2,4,5] ([],[]) [(0,[4,5],[4,5])] ([],[]) λσ k _ h=>rN h λhn h=>rT h λh2 h=>rT h λh4 h=>rT h λh5 h=>rV h λt23 h23 h=>rV h λt24 h24 h=>rV h λt25 h25 h=>rB h λa p hb2 h=>rB h λa1 t4 hb4 h=>rB h λa2 out hb5 h=>⟨_,ZaN (m:=43) hn (sC h2 (sC h4 (sC h5 (sC h23 (sC h24 (sC h25 sN)))))) (bC hb2 (bC hb4 (bC hb5 bN))),.trans (Z9v (λv:Int×(Int×Int×List (qS×qL×qL))=>(mkS 43 43 [(2,pB 2),(4,pB 4),(5,pB 5),(23,v1 y20 t23 .S),(24,vI t24),(25,vI v.1)] [(2,⟨y0,a,p,[.S]⟩),(4,⟨y22,a1,t4,[.O]⟩),(5,⟨y22,a2,v.2,[.O]⟩)])) (j2x t23 t24 p) (λ(k:Z84 Unit)=>(((λ(out1:Int×Int×List (qS×qL×qL))=>k (.exit 0) (mkS 43 43 [(4,pB 4),(5,pB 5)] [(4,⟨y22,a1,t4,[.O]⟩),(5,⟨y22,a2,out1,[.O]⟩)]))):((Int×Int×List (qS×qL×qL))->Res))) (λv rec k=>by delta j2x j0N j7w j5P;refine gz j4R λ_ e=> ?_;rewrite [<-e];refine gz j2X λ_ e=> ?_;rewrite [<-e];kernel_rfl) Z1d (t25,out) k) h⟩
noncomputable def j0F (p:qL) (b:Int×Int×List (qS×qL×qL)) (k0:(Int×Int×List (qS×qL×qL))->Res):Res:=
 j33 p λ(r:Bool)=>
  bif !r then
   k0 (0,0,[])
  else
   j2U b λ(r1:Bool)=>
    bif !r1 then
     k0 (0,0,[])
    else
     j34 b.2.2 (nI (List.length b.2.2)) p Z1d 0 (b.1,b.2.1,[]) λ(out:Int×Int×List (qS×qL×qL))=>
      k0 out
noncomputable def j5h:Sig Unit:=⟨[.borrow y0 true,.borrow y22 true],[true],λvals ext k=>av vals y0 λp vals=>av vals y22 λb vals=>nl vals<|nl ext<|j0F p b (λ(r0:Int×Int×List (qS×qL×qL))=>k [⟨y22,true,r0,[.O]⟩] [] [])⟩
theorem j9J:Z18 Tryz.prog 17 j5h:=j02 (np:=0) follows j00 j79 [j4g] (oI 122 0 (j98) oN) false Tryz.func17 λ_ _ k _ h=>aV h λ_ _ _ _ _ h=>aV h λ_ _ _ _ _ h=>nL h λ_ h=>nL h λ_ h=>by subst_vars;exact .trans (by delta j0F j5g j5M j4g;refine gz j33 λ_ e=> ?_;rewrite [<-e];refine gz j2U λ_ e=> ?_;rewrite [<-e];refine gz j34 λ_ e=> ?_;rewrite [<-e];kernel_rfl) h
noncomputable def j2m (t6:qL) (t7:Int) (p:qL) (t8:Int) (rec:Int->Res) (k0:Unit->Res) (k1:Unit->Res):Res:=
 bif decide (t8<t7) then
  bif inb t8 (List.length t6) then
   j0c (nth eS t6 t8) λ(r:Bool)=>
    bif !r then
     k1 ()
    else
     bif decide (t8>0) then
      bif inb (Z9L (t8-1)) (List.length p) then
       bif sGe (nth eS p (Z9L (t8-1))) (nth eS t6 t8) then
        k1 ()
       else
        rec (Z9L (t8+1))
      else none
     else
      rec (Z9L (t8+1))
  else none
 else
  k0 ()
noncomputable def j4U (t6:qL) (t7:Int) (p:qL):Int->(Int->Res)->((Unit->Res)×(Unit->Res))->Res:=λv rec q=>j2m t6 t7 p v (λt8=>rec (t8)) q.1 q.2
noncomputable def j67 (t6:qL) (t7:Int) (p:qL) (n:Nat) (t8:Int) (k0:Unit->Res) (k1:Unit->Res):Res:=Z1g (j4U t6 t7 p) n (t8) (k0,k1)
noncomputable def j7P:Z1e Unit:=λσ k=>rdN σ 35<|rdT σ 1 (pB 1)<|rd1 σ 6 y0 .S λt6=>rdI σ 7 λt7=>rdI σ 8 λt8=>rdB σ 1 y0 [.S] λa p=>j67 t6 t7 p Z1d t8 (λ(_:Unit)=>k (.exit 0) (mkS 35 35 [(1,pB 1)] [(1,⟨y0,a,p,[.S]⟩)])) (λ(_:Unit)=>k .ret (mkS 35 35 [(2,vB false)] []))
theorem jar {W0:Base} {M:Nat->Prop} (hnp:W0.np<=0):Z15 Tryz.prog W0 M (cAt 26 (bo Tryz.f90)) j7P:=j08 follows j00 (Za7 j1n Zat) hnp [] oN [1,6,7,8] [1] ([],[]) [(0,[1],[1])] ([2],[]) λσ k _ h=>rN h λhn h=>rT h λh1 h=>rV h λt6 h6 h=>rV h λt7 h7 h=>rV h λt8 h8 h=>rB h λa p hb1 h=>⟨_,ZaN (m:=35) hn (sC h1 (sC h6 (sC h7 (sC h8 sN)))) (bC hb1 bN),.trans (Z9v (λv:Int=>(mkS 35 35 [(1,pB 1),(6,v1 y0 t6 .S),(7,vI t7),(8,vI v)] [(1,⟨y0,a,p,[.S]⟩)])) (j4U t6 t7 p) (λ(k:Z84 Unit)=>(((λ(_:Unit)=>k (.exit 0) (mkS 35 35 [(1,pB 1)] [(1,⟨y0,a,p,[.S]⟩)])),(λ(_:Unit)=>k .ret (mkS 35 35 [(2,vB false)] []))):(Unit->Res)×(Unit->Res))) (λv rec k=>by kernel_rfl) Z1d (t8) k) h⟩
noncomputable def j4T (p:qL) (k0:Bool->Res):Res:=
 j67 p (nI (List.length p)) p Z1d 0
  (λ(_:Unit)=>
   k0 (decide ((nI (List.length p))<=6)))
  (λ(_:Unit)=>
   k0 false)
noncomputable def j8N:Sig Unit:=⟨[.look y0 true],[false],λvals ext k=>av vals y0 λp vals=>nl vals<|nl ext<|j4T p (λ(r0:Bool)=>k [wB r0] [] [])⟩
theorem jbf:Z18 Tryz.prog 90 j8N:=j02 (np:=0) follows j00 (Za7 j1n Zat) [j7P] (oI 26 0 (jar) oN) false Tryz.func90 λ_ _ k _ h=>aV h λ_ _ _ _ _ h=>nL h λ_ h=>nL h λ_ h=>by subst_vars;exact .trans (by kernel_rfl) h
noncomputable def j5C (x:qS×qL×qL) (t1:qL) (k0:Bool->Res):Res:=
 j1c t1 x.1.2.1 λ(r:Bool)=>
  k0 (!r)
noncomputable def j9v:Sig Unit:=⟨[.look y19 true,.rptr y0],[false],λvals ext k=>av vals y19 λx vals=>av vals y0 λt1 vals=>nl vals<|nl ext<|j5C x t1 (λ(r0:Bool)=>k [wB r0] [] [])⟩
theorem j9c:Z18 Tryz.prog 94 j9v:=j02 (np:=0) follows j00 (Za7 j6D Zat) [] oN false Tryz.func94 λ_ _ k _ h=>aV h λ_ _ _ _ _ h=>aV h λ_ _ _ _ _ h=>nL h λ_ h=>nL h λ_ h=>by subst_vars;exact .trans (by kernel_rfl) h
noncomputable def j1d (s:List (qS×qL×qL)) (x0:qL) (k0:(List (qS×qL×qL))->qL->Res):Res:=bif lim (List.length s) then dgF (λe k=>j5C e x0 k) s [] (λr=>k0 r x0) else none
noncomputable def j3H:Sig Unit:=⟨[.eat y20 false,.clos 94 [y0]],[false],λvals ext k=>ao vals y20 [.O] λs vals=>nl vals<|ab ext y0 [.S] λa0 x0 ext=>nl ext<|j1d s x0 (λ(r0:List (qS×qL×qL)) (bz0:qL)=>k [w1 y20 r0 .O] [] [⟨y0,a0,bz0,[.S]⟩])⟩
theorem j6E:Z18 Tryz.prog 93 j3H:=gS (jdh (U:=0) (T:=140) (e:=y19) (ag:=true) (τ:=y0) (tg:=[.S]) (fl:=[120,22,22]) (S:=30) (E:=132) (I:=3) (B:=4) follows j00 (by kernel_rfl) Tryz.underlying30 (by kernel_rfl) (by kernel_rfl) (by kernel_rfl) (by kernel_rfl) Tryz.isAgg140 Tryz.sizeOf140 (by kernel_rfl) (by kernel_rfl) (by kernel_rfl) Tryz.func165 (by kernel_rfl) (by kernel_rfl) (by kernel_rfl) (by kernel_rfl) j9c (by kernel_rfl) Tryz.func93 (by kernel_rfl) (by kernel_rfl) (by kernel_rfl) (by kernel_rfl)) (by kernel_rfl)
noncomputable def j0m (p:qL) (b:Int×Int×List (qS×qL×qL)) (k0:(Int×Int×List (qS×qL×qL))->Res):Res:=
 j4T p λ(r:Bool)=>
  bif !r then
   k0 (0,0,[])
  else
   j2M b λ(r1:Bool)=>
    bif !r1 then
     k0 (0,0,[])
    else
     j2P b λ(r2:Int×Int×List (qS×qL×qL))=>
      j1d r2.2.2 p λ(r3:List (qS×qL×qL)) (bp:qL)=>
       k0 (r2.1,r2.2.1,r3)
noncomputable def j3v:Sig Unit:=⟨[.borrow y0 true,.borrow y22 true],[true],λvals ext k=>av vals y0 λp vals=>av vals y22 λb vals=>nl vals<|nl ext<|j0m p b (λ(r0:Int×Int×List (qS×qL×qL))=>k [⟨y22,true,r0,[.O]⟩] [] [])⟩
theorem j9B:Z18 Tryz.prog 20 j3v:=j02 (np:=0) follows j00 (Za7 jbf (Za7 ja9 (Za7 j9d (Za7 j6E Zat)))) [] oN false Tryz.func20 λ_ _ k _ h=>aV h λ_ _ _ _ _ h=>aV h λ_ _ _ _ _ h=>nL h λ_ h=>nL h λ_ h=>by subst_vars;exact .trans (by delta j0m j8N j7J j6V j3H;refine gz j4T λ_ e=> ?_;rewrite [<-e];refine gz j2M λ_ e=> ?_;rewrite [<-e];refine gz j2P λ_ e=> ?_;rewrite [<-e];refine gz j1d λ_ e=> ?_;rewrite [<-e];kernel_rfl) h
end Go.PI.G
namespace Go.PI.G
open Go Go.PI Go.Proofs
open Go.Code (pl pr)
noncomputable def j55 (a:Int×Int×qB) (left:Int) (k0:Int->Res):Res:=
 bif decide ((Z9L (left-(nI (ByteArray.size a.2.2))))<0) then
  k0 (-1)
 else
  k0 (Z9L (left-(nI (ByteArray.size a.2.2))))
noncomputable def jbA:Sig Unit:=⟨[.look y2 true,.look tI false],[false],λvals ext k=>av vals y2 λa vals=>av vals tI λleft vals=>nl vals<|nl ext<|j55 a left (λ(r0:Int)=>k [wI r0] [] [])⟩
theorem j6B:Z18 Tryz.prog 105 jbA:=j02 (np:=0) follows j00 Zat [] oN false Tryz.func105 λ_ _ k _ h=>aV h λ_ _ _ _ _ h=>aV h λ_ _ _ _ _ h=>nL h λ_ h=>nL h λ_ h=>by subst_vars;exact .trans (by kernel_rfl) h
noncomputable def j58 (a:Int×Int×qB) (k0:qV->Res):Res:=
 k0 (a.1,a.2.1,a.2.2)
noncomputable def jbC:Sig Unit:=⟨[.look y2 true],[true],λvals ext k=>av vals y2 λa vals=>nl vals<|nl ext<|j58 a (λ(r0:Int×Int×qB)=>k [⟨y2,true,r0,[]⟩] [] [])⟩
theorem j6C:Z18 Tryz.prog 106 jbC:=j02 (np:=0) follows j00 Zat [] oN false Tryz.func106 λ_ _ k _ h=>aV h λ_ _ _ _ _ h=>nL h λ_ h=>nL h λ_ h=>by subst_vars;exact .trans (by kernel_rfl) h
noncomputable def j51 (a:Int×Int×qB) (b:Int×Int×qB) (k0:Bool->Res):Res:=
 bif (a.1 != b.1) then
  k0 false
 else
  bif (a.2.1 != b.2.1) then
   k0 false
  else
   bif sNe a.2.2 b.2.2 then
    k0 false
   else
    k0 true
noncomputable def jby:Sig Unit:=⟨[.look y2 true,.look y2 true],[false],λvals ext k=>av vals y2 λa vals=>av vals y2 λb vals=>nl vals<|nl ext<|j51 a b (λ(r0:Bool)=>k [wB r0] [] [])⟩
theorem j6A:Z18 Tryz.prog 107 jby:=j02 (np:=0) follows j00 Zat [] oN false Tryz.func107 λ_ _ k _ h=>aV h λ_ _ _ _ _ h=>aV h λ_ _ _ _ _ h=>nL h λ_ h=>nL h λ_ h=>by subst_vars;exact .trans (by kernel_rfl) h
end Go.PI.G
namespace Go.PI.G
open Go Go.PI Go.Proofs
open Go.Code (pl pr)
noncomputable def j6s (a:qB×Int×Bool×Bool×Int×Int×qB) (left:Int) (k0:Int->Res):Res:=
 bif decide ((Z9L (left-(nI (ByteArray.size a.1))))<0) then
  k0 (-1)
 else
  j55 a.2.2.2.2 (Z9L (left-(nI (ByteArray.size a.1)))) λ(r:Int)=>
   bif decide (r<0) then
    k0 (-1)
   else
    k0 r
noncomputable def jbz:Sig Unit:=⟨[.look y7 true,.look tI false],[false],λvals ext k=>av vals y7 λa vals=>av vals tI λleft vals=>nl vals<|nl ext<|j6s a left (λ(r0:Int)=>k [wI r0] [] [])⟩
theorem j8r:Z18 Tryz.prog 285 jbz:=j02 (np:=0) follows j00 (Za7 j6B Zat) [] oN false Tryz.func285 λ_ _ k _ h=>aV h λ_ _ _ _ _ h=>aV h λ_ _ _ _ _ h=>nL h λ_ h=>nL h λ_ h=>by subst_vars;exact .trans (by kernel_rfl) h
noncomputable def j6t (a:qB×Int×Bool×Bool×Int×Int×qB) (k0:qC->Res):Res:=
 j58 a.2.2.2.2 λ(r:Int×Int×qB)=>
  k0 (a.1,a.2.1,a.2.2.1,a.2.2.2.1,r)
noncomputable def jbB:Sig Unit:=⟨[.look y7 true],[true],λvals ext k=>av vals y7 λa vals=>nl vals<|nl ext<|j6t a (λ(r0:qB×Int×Bool×Bool×Int×Int×qB)=>k [⟨y7,true,r0,[]⟩] [] [])⟩
theorem j8s:Z18 Tryz.prog 292 jbB:=j02 (np:=0) follows j00 (Za7 j6C Zat) [] oN false Tryz.func292 λ_ _ k _ h=>aV h λ_ _ _ _ _ h=>nL h λ_ h=>nL h λ_ h=>by subst_vars;exact .trans (by kernel_rfl) h
noncomputable def j6r (a:qB×Int×Bool×Bool×Int×Int×qB) (b:qB×Int×Bool×Bool×Int×Int×qB) (k0:Bool->Res):Res:=
 bif sNe a.1 b.1 then
  k0 false
 else
  bif (a.2.1 != b.2.1) then
   k0 false
  else
   bif !(a.2.2.1==b.2.2.1) then
    k0 false
   else
    bif !(a.2.2.2.1==b.2.2.2.1) then
     k0 false
    else
     j51 a.2.2.2.2 b.2.2.2.2 λ(r:Bool)=>
      bif !r then
       k0 false
      else
       k0 true
noncomputable def jbx:Sig Unit:=⟨[.look y7 true,.look y7 true],[false],λvals ext k=>av vals y7 λa vals=>av vals y7 λb vals=>nl vals<|nl ext<|j6r a b (λ(r0:Bool)=>k [wB r0] [] [])⟩
theorem j8p:Z18 Tryz.prog 302 jbx:=j02 (np:=0) follows j00 (Za7 j6A Zat) [] oN false Tryz.func302 λ_ _ k _ h=>aV h λ_ _ _ _ _ h=>aV h λ_ _ _ _ _ h=>nL h λ_ h=>nL h λ_ h=>by subst_vars;exact .trans (by kernel_rfl) h
end Go.PI.G
namespace Go.PI.G
open Go Go.PI Go.Proofs
open Go.Code (pl pr)
noncomputable def j1g (k_:Int) (out:qB) (rec:Int->qB->Res) (k0:qB->Res):Res:=
 bif decide (k_>0) then
  bif lim ((ByteArray.size (Z3C [wu8 (Z9L (48+(Int.tmod k_ 10)))]))+(ByteArray.size out)) then
   rec (Z9L (Int.tdiv k_ 10)) ((Z3C [wu8 (Z9L (48+(Int.tmod k_ 10)))])++out)
  else none
 else
  k0 out
noncomputable def j2r:(Int×qB)->(Int×qB->Res)->((qB->Res))->Res:=λv rec q=>j1g v.1 v.2 (λk_ out=>rec (k_,out)) q
noncomputable def j4A (n:Nat) (k_:Int) (out:qB) (k0:qB->Res):Res:=Z1g (j2r) n (k_,out) (k0)
noncomputable def j6l:Z1e Unit:=λσ k=>rdN σ 20<|rdI σ 0 λk_=>rdS σ 3 λout=>j4A Z1d k_ out (λ(out1:qB)=>k (.exit 0) (mkS 20 20 [(3,vS out1)] []))
theorem j96 {W0:Base} {M:Nat->Prop} (hnp:W0.np<=0):Z15 Tryz.prog W0 M (cAt 60 (bo Tryz.f110)) j6l:=j08 follows j00 Zat hnp [] oN [0,3] [] ([],[]) [(0,[3],[])] ([],[]) λσ k _ h=>rN h λhn h=>rV h λk_ h0 h=>rV h λout h3 h=>⟨_,ZaN (m:=20) hn (sC h0 (sC h3 sN)) bN,.trans (Z9v (λv:Int×qB=>(mkS 20 20 [(0,vI v.1),(3,vS v.2)] [])) (j2r) (λ(k:Z84 Unit)=>(((λ(out1:qB)=>k (.exit 0) (mkS 20 20 [(3,vS out1)] []))):(qB->Res))) (λv rec k=>by kernel_rfl) Z1d (k_,out) k) h⟩
noncomputable def j05 (k_:Int) (k0:qB->Res):Res:=
 bif decide (k_<=0) then
  k0 jdo
 else
  j4A Z1d k_ eS λ(out:qB)=>
   bif lim (1+(ByteArray.size out)) then
    k0 (z_m++out)
   else none
noncomputable def j1m:Sig Unit:=⟨[.look tI false],[false],λvals ext k=>av vals tI λk_ vals=>nl vals<|nl ext<|j05 k_ (λ(r0:qB)=>k [wS r0] [] [])⟩
theorem j06:Z18 Tryz.prog 110 j1m:=j02 (np:=0) follows j00 Zat [j6l] (oI 60 0 (j96) oN) false Tryz.func110 λ_ _ k _ h=>aV h λ_ _ _ _ _ h=>nL h λ_ h=>nL h λ_ h=>by subst_vars;exact .trans (by kernel_rfl) h
end Go.PI.G
