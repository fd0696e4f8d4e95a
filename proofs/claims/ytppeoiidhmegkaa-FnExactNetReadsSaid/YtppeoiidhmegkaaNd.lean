/-
  Program's code interpreted over typed values; printed texts; plain laws. No conditions.
-/
import Derived.Test.YtppeoiidhmegkaaPc
import Derived.Test.YtppeoiidhmegkaaNa
import Derived.Test.YtppeoiidhmegkaaNc
import Derived.Test.YtppeoiidhmegkaaNb
set_option linter.unusedVariables false
set_option maxRecDepth 100000
namespace Go.PI.G
open Go Go.PI Go.Proofs
open Go.Code (pl pr)
noncomputable def j1Q (a:List (List Int)) (left:Int) (i:Int) (rec:Int->Int->Res) (k0:Int->Res) (k1:Unit->Res):Res:=
 bif decide (i<(nI (List.length a))) then
  bif inb i (List.length a) then
   j77 (nth [] a i) left λ(r:Int)=>
    bif decide (r<0) then
     k1 ()
    else
     rec r (Z8o (i+1))
  else none
 else
  k0 left
noncomputable def j7y (a:List (List Int)):(Int×Int)->(Int×Int->Res)->((Int->Res)×(Unit->Res))->Res:=λv rec q=>j1Q a v.1 v.2 (λleft i=>rec (left,i)) q.1 q.2
noncomputable def j49 (a:List (List Int)) (n:Nat) (left:Int) (i:Int) (k0:Int->Res) (k1:Unit->Res):Res:=Z14 (j7y a) n (left,i) (k0,k1)
noncomputable def j8d:Z1q Unit:=λσ k=>rdN σ 27<|rd1 σ 0 y19 .S λa=>rdI σ 1 λleft=>rdI σ 5 λi=>j49 a Z12 left i (λ(left1:Int)=>k (.exit 0) (mkS 27 27 [(1,vI left1)] [])) (λ(_:Unit)=>k .ret (mkS 27 27 [(4,vI (-1))] []))
theorem jaD {W0:Base} {M:Nat->Prop} (hnp:W0.np<=0):Z22 Try.prog W0 M (cAt 122 (bo Try.f62)) j8d:=j0b follows j01 (Z8K j9q Z94) hnp [] oN [0,1,5] [] ([],[]) [(0,[1],[])] ([4],[]) λσ k _ h=>rN h λhn h=>rV h λa h0 h=>rV h λleft h1 h=>rV h λi h5 h=>⟨_,Z9m (m:=27) hn (sC h0 (sC h1 (sC h5 sN))) bN,.trans (Z88 (λv:Int×Int=>(mkS 27 27 [(0,v1 y19 a .S),(1,vI v.1),(5,vI v.2)] [])) (j7y a) (λ(k:Z6O Unit)=>(((λ(left1:Int)=>k (.exit 0) (mkS 27 27 [(1,vI left1)] [])),(λ(_:Unit)=>k .ret (mkS 27 27 [(4,vI (-1))] []))):(Int->Res)×(Unit->Res))) (λv rec k=>by kernel_rfl) Z12 (left,i) k) h⟩
noncomputable def j65 (a:List (List Int)) (left:Int) (k0:Int->Res):Res:=
 bif decide ((Z8o (left-(nI (List.length a))))<0) then
  k0 (-1)
 else
  j49 a Z12 (Z8o (left-(nI (List.length a)))) 0
   (λ(left1:Int)=>
    k0 left1)
   (λ(_:Unit)=>
    k0 (-1))
noncomputable def jc9:Sig Unit:=⟨[.look y19 false,.look tI false],[false],λvals ext k=>av vals y19 λa vals=>av vals tI λleft vals=>nl vals<|nl ext<|j65 a left (λ(r0:Int)=>k [wI r0] [] [])⟩
theorem jbP:Z1p Try.prog 62 jc9:=j04 (np:=0) follows j01 (Z8K j9q Z94) [j8d] (oI 122 0 (jaD) oN) false Try.func62 λ_ _ k _ h=>aV h λ_ _ _ _ _ h=>aV h λ_ _ _ _ _ h=>nL h λ_ h=>nL h λ_ h=>by subst_vars;exact .trans (by kernel_rfl) h
noncomputable def j1S (a:List (List Int)) (out:List (List Int)) (i:Int) (rec:(List (List Int))->Int->Res) (k0:(List (List Int))->Res):Res:=
 bif decide (i<(nI (List.length a))) then
  bif inb i (List.length a) then
   j78 (nth [] a i) λ(r:List Int)=>
    bif inb i (List.length out) then
     rec (upd out i r) (Z8o (i+1))
    else none
  else none
 else
  k0 out
noncomputable def j52 (a:List (List Int)):((List (List Int))×Int)->((List (List Int))×Int->Res)->(((List (List Int))->Res))->Res:=λv rec q=>j1S a v.1 v.2 (λout i=>rec (out,i)) q
noncomputable def j8u (a:List (List Int)) (n:Nat) (out:List (List Int)) (i:Int) (k0:(List (List Int))->Res):Res:=Z14 (j52 a) n (out,i) (k0)
noncomputable def j8f:Z1q Unit:=λσ k=>rdN σ 23<|rd1 σ 0 y19 .S λa=>rd1 σ 3 y19 .O λout=>rdI σ 4 λi=>j8u a Z12 out i (λ(out1:List (List Int))=>k (.exit 0) (mkS 23 23 [(3,v1 y19 out1 .O)] []))
theorem jaF {W0:Base} {M:Nat->Prop} (hnp:W0.np<=0):Z22 Try.prog W0 M (cAt 58 (bo Try.f65)) j8f:=j0b follows j01 (Z8K j9r Z94) hnp [] oN [0,3,4] [] ([],[]) [(0,[3],[])] ([],[]) λσ k _ h=>rN h λhn h=>rV h λa h0 h=>rV h λout h3 h=>rV h λi h4 h=>⟨_,Z9m (m:=23) hn (sC h0 (sC h3 (sC h4 sN))) bN,.trans (Z88 (λv:(List (List Int))×Int=>(mkS 23 23 [(0,v1 y19 a .S),(3,v1 y19 v.1 .O),(4,vI v.2)] [])) (j52 a) (λ(k:Z6O Unit)=>(((λ(out1:List (List Int))=>k (.exit 0) (mkS 23 23 [(3,v1 y19 out1 .O)] []))):((List (List Int))->Res))) (λv rec k=>by kernel_rfl) Z12 (out,i) k) h⟩
noncomputable def j67 (a:List (List Int)) (k0:(List (List Int))->Res):Res:=
 bif Z8m (nI (List.length a)) (nI (List.length a)) then
  j8u a Z12 (Z7Y (nI (List.length a)) []) 0 λ(out:List (List Int))=>
   k0 out
 else none
noncomputable def jcb:Sig Unit:=⟨[.borrow y19 false],[false],λvals ext k=>av vals y19 λa vals=>nl vals<|nl ext<|j67 a (λ(r0:List (List Int))=>k [w1 y19 r0 .O] [] [])⟩
theorem jbR:Z1p Try.prog 65 jcb:=j04 (np:=0) follows j01 (Z8K j9r Z94) [j8f] (oI 58 0 (jaF) oN) false Try.func65 λ_ _ k _ h=>aV h λ_ _ _ _ _ h=>nL h λ_ h=>nL h λ_ h=>by subst_vars;exact .trans (by kernel_rfl) h
noncomputable def j1P (a:List (List Int)) (b:List (List Int)) (i:Int) (rec:Int->Res) (k0:Unit->Res) (k1:Unit->Res):Res:=
 bif decide (i<(nI (List.length a))) then
  bif inb i (List.length a) then
   bif inb i (List.length b) then
    j76 (nth [] a i) (nth [] b i) λ(r:Bool)=>
     bif !r then
      k1 ()
     else
      rec (Z8o (i+1))
   else none
  else none
 else
  k0 ()
noncomputable def j7x (a:List (List Int)) (b:List (List Int)):Int->(Int->Res)->((Unit->Res)×(Unit->Res))->Res:=λv rec q=>j1P a b v (λi=>rec (i)) q.1 q.2
noncomputable def j62 (a:List (List Int)) (b:List (List Int)) (n:Nat) (i:Int) (k0:Unit->Res) (k1:Unit->Res):Res:=Z14 (j7x a b) n (i) (k0,k1)
noncomputable def j8c:Z1q Unit:=λσ k=>rdN σ 27<|rd1 σ 0 y19 .S λa=>rd1 σ 1 y19 .S λb=>rdI σ 5 λi=>j62 a b Z12 i (λ(_:Unit)=>k (.exit 0) (mkS 27 27 [] [])) (λ(_:Unit)=>k .ret (mkS 27 27 [(4,vB false)] []))
theorem jaC {W0:Base} {M:Nat->Prop} (hnp:W0.np<=0):Z22 Try.prog W0 M (cAt 58 (bo Try.f68)) j8c:=j0b follows j01 (Z8K j9p Z94) hnp [] oN [0,1,5] [] ([],[]) [(0,[],[])] ([4],[]) λσ k _ h=>rN h λhn h=>rV h λa h0 h=>rV h λb h1 h=>rV h λi h5 h=>⟨_,Z9m (m:=27) hn (sC h0 (sC h1 (sC h5 sN))) bN,.trans (Z88 (λv:Int=>(mkS 27 27 [(0,v1 y19 a .S),(1,v1 y19 b .S),(5,vI v)] [])) (j7x a b) (λ(k:Z6O Unit)=>(((λ(_:Unit)=>k (.exit 0) (mkS 27 27 [] [])),(λ(_:Unit)=>k .ret (mkS 27 27 [(4,vB false)] []))):(Unit->Res)×(Unit->Res))) (λv rec k=>by kernel_rfl) Z12 (i) k) h⟩
noncomputable def j61 (a:List (List Int)) (b:List (List Int)) (k0:Bool->Res):Res:=
 bif ((nI (List.length a)) != (nI (List.length b))) then
  k0 false
 else
  j62 a b Z12 0
   (λ(_:Unit)=>
    k0 true)
   (λ(_:Unit)=>
    k0 false)
noncomputable def jc7:Sig Unit:=⟨[.look y19 false,.look y19 false],[false],λvals ext k=>av vals y19 λa vals=>av vals y19 λb vals=>nl vals<|nl ext<|j61 a b (λ(r0:Bool)=>k [wB r0] [] [])⟩
theorem jbM:Z1p Try.prog 68 jc7:=j04 (np:=0) follows j01 (Z8K j9p Z94) [j8c] (oI 58 0 (jaC) oN) false Try.func68 λ_ _ k _ h=>aV h λ_ _ _ _ _ h=>aV h λ_ _ _ _ _ h=>nL h λ_ h=>nL h λ_ h=>by subst_vars;exact .trans (by kernel_rfl) h
noncomputable def j1j (a:List (List Int)) (k_:Int) (i:Int) (rec:(List (List Int))->Int->Int->Res) (k0:(List (List Int))->Int->Res):Res:=
 bif decide (i<(nI (List.length a))) then
  bif inb i (List.length a) then
   j4L (nth [] a i) k_ λ(r:Int) (a1:List Int)=>
    rec (upd a i a1) r (Z8o (i+1))
  else none
 else
  k0 a k_
noncomputable def j43:((List (List Int))×Int×Int)->((List (List Int))×Int×Int->Res)->(((List (List Int))->Int->Res))->Res:=λv rec q=>j1j v.1 v.2.1 v.2.2 (λa k_ i=>rec (a,k_,i)) q
noncomputable def j50 (n:Nat) (a:List (List Int)) (k_:Int) (i:Int) (k0:(List (List Int))->Int->Res):Res:=Z14 (j43) n (a,k_,i) (k0)
noncomputable def j7i:Z1q Unit:=λσ k=>rdN σ 20<|rd1 σ 0 y19 .O λa=>rdI σ 1 λk_=>rdI σ 5 λi=>j50 Z12 a k_ i (λ(a2:List (List Int)) (k_1:Int)=>k (.exit 0) (mkS 20 20 [(0,v1 y19 a2 .O),(1,vI k_1)] []))
theorem j9P {W0:Base} {M:Nat->Prop} (hnp:W0.np<=1):Z22 Try.prog W0 M (cAt 26 (bo Try.f69)) j7i:=j0b follows j01 (Z8K j7S Z94) hnp [] oN [0,1,5] [] ([],[]) [(0,[0,1],[])] ([],[]) λσ k _ h=>rN h λhn h=>rV h λa h0 h=>rV h λk_ h1 h=>rV h λi h5 h=>⟨_,Z9m (m:=20) hn (sC h0 (sC h1 (sC h5 sN))) bN,.trans (Z88 (λv:(List (List Int))×Int×Int=>(mkS 20 20 [(0,v1 y19 v.1 .O),(1,vI v.2.1),(5,vI v.2.2)] [])) (j43) (λ(k:Z6O Unit)=>(((λ(a2:List (List Int)) (k_1:Int)=>k (.exit 0) (mkS 20 20 [(0,v1 y19 a2 .O),(1,vI k_1)] []))):((List (List Int))->Int->Res))) (λv rec k=>by kernel_rfl) Z12 (a,k_,i) k) h⟩
noncomputable def j4M (a:List (List Int)) (k_:Int) (k0:Int->(List (List Int))->Res):Res:=
 j50 Z12 a k_ 0 λ(a1:List (List Int)) (k_1:Int)=>
  k0 k_1 a1
noncomputable def jaT:Sig Unit:=⟨[.inout y19 false,.borrow tI false],[false],λvals ext k=>ao vals y19 [.O] λa vals=>av vals tI λk_ vals=>nl vals<|nl ext<|j4M a k_ (λ(r0:Int) (i0:List (List Int))=>k [wI r0] [w1 y19 i0 .O] [])⟩
theorem jau:Z1p Try.prog 69 jaT:=j04 (np:=1) follows j01 (Z8K j7S Z94) [j7i] (oI 26 0 (j9P) oN) false Try.func69 λ_ _ k _ h=>aO h λ_ _ _ _ h=>aV h λ_ _ _ _ _ h=>nL h λ_ h=>nL h λ_ h=>by subst_vars;exact .trans (by kernel_rfl) h
end Go.PI.G
namespace Go.PI.G
open Go Go.PI Go.Proofs
open Go.Code (pl pr)
noncomputable def j64 (a:List (List Int)) (left:Int) (k0:Int->Res):Res:=
 j65 a left λ(r:Int)=>
  bif decide (r<0) then
   k0 (-1)
  else
   k0 r
noncomputable def j86:Sig Unit:=⟨[.look y19 true,.look tI false],[false],λvals ext k=>av vals y19 λa vals=>av vals tI λleft vals=>nl vals<|nl ext<|j64 a left (λ(r0:Int)=>k [wI r0] [] [])⟩
theorem jd1:Z1p Try.prog 16 j86:=j04 (np:=0) follows j01 (Z8K jbP Z94) [] oN false Try.func16 λ_ _ k _ h=>aV h λ_ _ _ _ _ h=>aV h λ_ _ _ _ _ h=>nL h λ_ h=>nL h λ_ h=>by subst_vars;exact .trans (by kernel_rfl) h
noncomputable def j1Y (a:List (List Int)) (k0:(List (List Int))->Res):Res:=
 j67 a λ(r:List (List Int))=>
  k0 r
noncomputable def j6e:Sig Unit:=⟨[.borrow y19 true],[true],λvals ext k=>av vals y19 λa vals=>nl vals<|nl ext<|j1Y a (λ(r0:List (List Int))=>k [⟨y19,true,r0,[.O]⟩] [] [])⟩
theorem jd2:Z1p Try.prog 18 j6e:=j04 (np:=0) follows j01 (Z8K jbR Z94) [] oN false Try.func18 λ_ _ k _ h=>aV h λ_ _ _ _ _ h=>nL h λ_ h=>nL h λ_ h=>by subst_vars;exact .trans (by kernel_rfl) h
noncomputable def j60 (a:List (List Int)) (b:List (List Int)) (k0:Bool->Res):Res:=
 j61 a b λ(r:Bool)=>
  bif !r then
   k0 false
  else
   k0 true
noncomputable def j85:Sig Unit:=⟨[.look y19 true,.look y19 true],[false],λvals ext k=>av vals y19 λa vals=>av vals y19 λb vals=>nl vals<|nl ext<|j60 a b (λ(r0:Bool)=>k [wB r0] [] [])⟩
theorem jd0:Z1p Try.prog 21 j85:=j04 (np:=0) follows j01 (Z8K jbM Z94) [] oN false Try.func21 λ_ _ k _ h=>aV h λ_ _ _ _ _ h=>aV h λ_ _ _ _ _ h=>nL h λ_ h=>nL h λ_ h=>by subst_vars;exact .trans (by kernel_rfl) h
noncomputable def j4p (a:List (List Int)) (k_:Int) (k0:Int->(List (List Int))->Res):Res:=
 j4M a k_ λ(r:Int) (a1:List (List Int))=>
  k0 r a1
noncomputable def j6Q:Sig Unit:=⟨[.inout y19 true,.borrow tI false],[false],λvals ext k=>ao vals y19 [.O] λa vals=>av vals tI λk_ vals=>nl vals<|nl ext<|j4p a k_ (λ(r0:Int) (i0:List (List Int))=>k [wI r0] [⟨y19,true,i0,[.O]⟩] [])⟩
theorem jbN:Z1p Try.prog 22 j6Q:=j04 (np:=1) follows j01 (Z8K jau Z94) [] oN false Try.func22 λ_ _ k _ h=>aO h λ_ _ _ _ h=>aV h λ_ _ _ _ _ h=>nL h λ_ h=>nL h λ_ h=>by subst_vars;exact .trans (by kernel_rfl) h
end Go.PI.G
namespace Go.PI.G
open Go Go.PI Go.Proofs
open Go.Code (pl pr)
theorem j5e:Fns Try.prog [(16,j86),(17,j6f),(18,j6e),(19,j4a),(20,j5l),(21,j85),(22,j6Q),(23,j6d),(24,j6c)]:=(Z8K jd1 (Z8K jb5 (Z8K jd2 (Z8K jaY (Z8K jcC (Z8K jd0 (Z8K jbN (Z8K jb4 (Z8K jb3 Z94)))))))))
noncomputable def j0I (w0:List Int) (g0:List Int) (aN:List (List Int)) (k0:Bool->Res):Res:=
 j3U g0 1 λ(r:Int) (a1:List Int)=>
  j2z a1 1 λ(r1:Int)=>
   bif decide (r1<0) then
    k0 false
   else
    bif (r1 != r) then
     k0 false
    else
     j1Y aN λ(r2:List (List Int))=>
      j1c r2 λ(r3:List Int)=>
       j25 r3 w0 λ(r4:Bool)=>
        bif !r4 then
         k0 false
        else
         j2z a1 1 λ(r5:Int)=>
          bif decide (r5<0) then
           k0 false
          else
           bif (r5 != r) then
            k0 false
           else
            k0 true
noncomputable def j2p:Z1q Unit:=λσ k=>rdN σ 69<|rdT σ 1 (pB 1)<|rd1 σ 4 y20 .O λw0=>rd1 σ 6 y20 .O λg0=>rdB σ 1 y19 [.S] λa aN=>j0I w0 g0 aN (λ(t2:Bool)=>k .ret (mkS 69 69 [(2,vB t2)] []))
theorem j7X {W0:Base} {M:Nat->Prop} (hnp:W0.np<=0):Z22 Try.prog W0 M (cAt 8191 (bo Try.f4)) j2p:=j2s follows j01 j5e hnp [] oN ([],[]) [] ([2],[]) λσ k _ h=>rN h λhn h=>rT h λh1 h=>rV h λw0 h4 h=>rV h λg0 h6 h=>rB h λa aN hb1 h=>⟨_,Z9m (m:=69) hn (sC h1 (sC h4 (sC h6 sN))) (bC hb1 bN),.trans (by delta j0I j6d j6c j6e j4a j5l;refine gz j3U λ_ e=> ?_;rewrite [<-e];refine gz j2z λ_ e=> ?_;rewrite [<-e];refine gz j1Y λ_ e=> ?_;rewrite [<-e];refine gz j1c λ_ e=> ?_;rewrite [<-e];refine gz j25 λ_ e=> ?_;rewrite [<-e];kernel_rfl) h⟩
noncomputable def j14 (aN:List (List Int)) (k0:Bool->Res):Res:=
 j64 aN 1048576 λ(r:Int)=>
  bif decide (r<0) then
   k0 true
  else
   j1Y aN λ(r1:List (List Int))=>
    j2B r1 λ(r2:List Int)=>
     j1Y aN λ(r3:List (List Int))=>
      j1c r3 λ(r4:List Int)=>
       j25 r4 r2 λ(r5:Bool)=>
        bif !r5 then
         k0 false
        else
         j1Y aN λ(r6:List (List Int))=>
          j60 r3 r6 λ(r7:Bool)=>
           bif !r7 then
            k0 false
           else
            j4p r3 1 λ(r8:Int) (a:List (List Int))=>
             bif decide (r8<0) then
              k0 false
             else
              j25 r4 r2 λ(r9:Bool)=>
               bif !r9 then
                k0 false
               else
                j0I r2 r4 aN λ(t:Bool)=>
                 k0 t
noncomputable def j0L:Sig Unit:=⟨[.borrow y19 true],[false],λvals ext k=>av vals y19 λaN vals=>nl vals<|nl ext<|j14 aN (λ(r0:Bool)=>k [wB r0] [] [])⟩
theorem j8F:Z1p Try.prog 4 j0L:=j04 (np:=0) follows j01 j5e [j2p] (oI 8191 0 (j7X) oN) false Try.func4 λ_ _ k _ h=>aV h λ_ _ _ _ _ h=>nL h λ_ h=>nL h λ_ h=>by subst_vars;exact .trans (by delta j14 j86 j6e j6f j4a j5l j85 j6Q j2p;refine gz j64 λ_ e=> ?_;rewrite [<-e];refine gz j1Y λ_ e=> ?_;rewrite [<-e];refine gz j2B λ_ e=> ?_;rewrite [<-e];refine gz j1c λ_ e=> ?_;rewrite [<-e];refine gz j25 λ_ e=> ?_;rewrite [<-e];refine gz j60 λ_ e=> ?_;rewrite [<-e];refine gz j4p λ_ e=> ?_;rewrite [<-e];refine gz j0I λ_ e=> ?_;rewrite [<-e];kernel_rfl) h
end Go.PI.G
namespace Go.PI.G
open Go Go.PI
abbrev V:=Int×Int×ByteArray
theorem jdt (n:Int):wu8 n=n % 256:=by
 unfold wu8 IntKind.wrap
 simp [IntKind.bits,IntKind.signed]
theorem j0x {n:Int} (h:0<=n/\n<256):wu8 n=n:=by rw [jdt];omega
theorem j0s (s:ByteArray):(Z1e s).length=s.size:=by unfold Z1e;simp
def isB (l:List Int):Prop:=∀ x∈l,0<=x/\x<256
theorem j8R (s:ByteArray):isB (Z1e s):=by
 intro x hx
 unfold Z1e at hx
 obtain ⟨b,_,rfl⟩:=List.mem_map.1 hx
 have:=UInt8.toNat_lt b
 omega
theorem j68 (s:ByteArray):Z34 (Z1e s)=s:=by
 unfold Z34 Z1e
 rw [List.map_map]
 have:(λb:UInt8=>b)=(λn:Int=>UInt8.ofNat n.toNat) ∘ λb:UInt8=>(b.toNat:Int):=by
  funext b;simp
 rw [<-this]
 simp
theorem j4f {l:List Int} (h:isB l):Z1e (Z34 l)=l:=by
 unfold Z34 Z1e
 simp only [List.map_map]
 have:l.map ((λb:UInt8=>(b.toNat:Int)) ∘ λn:Int=>UInt8.ofNat n.toNat)=l.map id:=by
  refine List.map_congr_left λx hx=> ?_
  have:=h x hx
  simp only [Function.comp,id]
  rw [UInt8.toNat_ofNat']
  omega
 rw [this,List.map_id]
theorem j2a (a b:ByteArray):sEq a b=true↔a=b:=by
 unfold sEq
 rw [beq_iff_eq]
 constructor
 ·intro h
  rw [ByteArray.ext_iff]
  have h1:a.toList=a.data.toList:=by rw [ByteArray.toList_eq]
  have h2:b.toList=b.data.toList:=by rw [ByteArray.toList_eq]
  rw [h1,h2] at h
  exact Array.toList_inj.1 h
 ·rintro rfl;rfl
theorem jc5 (a b:ByteArray):sNe a b=false↔a=b:=by
 unfold sNe
 rw [Bool.not_eq_false']
 exact j2a a b
theorem jao {l m:List Int} (hl:isB l) (hm:isB m) (h:Z34 l=Z34 m):l=m:=by
 rw [<-j4f hl,h,j4f hm]
def jdf (n:Int):Bool:=decide (-1099511627775<=n/\n<=1099511627775)
def j0h (v:V):Bool:=
 bif v.1==0 then (v.2.1==0)&&sEq v.2.2 eS
 else bif v.1==1 then ((v.2.1==0)||(v.2.1==1))&&sEq v.2.2 eS
 else bif v.1==2 then jdf v.2.1&&sEq v.2.2 eS
 else bif v.1==3 then (v.2.1==0)&&decide (nI v.2.2.size<=30)
 else false
theorem jeC (x:Int):decide (0<=x/\x<=1)=((x==0)||(x==1)):=by
 by_cases h:0<=x/\x<=1
 ·rw [decide_eq_true h]
  have:x=0\/x=1:=by omega
  rcases this with rfl | rfl<;>rfl
 ·rw [decide_eq_false h]
  have h1:(x==0)=false:=by simp;omega
  have h2:(x==1)=false:=by simp;omega
  rw [h1,h2];rfl
theorem j0B {v:V} (h:j0h v=true):v=(0,0,eS)\/(∃ n,(n=0\/n=1)/\v=(1,n,eS))\/(∃ n,(-1099511627775<=n/\n<=1099511627775)/\v=(2,n,eS))\/∃ s:ByteArray,s.size<=30/\v=(3,0,s):=by
 obtain ⟨t,n,s⟩:=v
 unfold j0h at h
 simp only at h
 cases h0:t==0
 ·cases h1:t==1
  ·cases h2:t==2
   ·cases h3:t==3
    ·rw [h0,h1,h2,h3] at h;cases h
    ·rw [h0,h1,h2,h3] at h
     simp only [cond_false,cond_true,Bool.and_eq_true,beq_iff_eq,decide_eq_true_eq] at h h3
     obtain ⟨rfl,h⟩:=h
     subst h3
     exact .inr (.inr (.inr ⟨s,by unfold nI at h;omega,rfl⟩))
   ·rw [h0,h1,h2] at h
    simp only [cond_false,cond_true,Bool.and_eq_true,beq_iff_eq] at h h2
    obtain ⟨h,hs⟩:=h
    rw [j2a] at hs
    subst hs;subst h2
    exact .inr (.inr (.inl ⟨n,of_decide_eq_true h,rfl⟩))
  ·rw [h0,h1] at h
   simp only [cond_false,cond_true,Bool.and_eq_true,Bool.or_eq_true,beq_iff_eq] at h h1
   obtain ⟨h,hs⟩:=h
   rw [j2a] at hs
   subst hs;subst h1
   exact .inr (.inl ⟨n,h,rfl⟩)
 ·rw [h0] at h
  simp only [cond_true,Bool.and_eq_true,beq_iff_eq] at h h0
  obtain ⟨h,hs⟩:=h
  rw [j2a] at hs
  subst hs;subst h0;subst h
  exact .inl rfl
def be (n:Nat):Nat->List Int
 | 0=>[]
 | s+1=>((n / 256 ^ s % 256:Nat):Int)::be n s
theorem j0Z (n:Nat):(s:Nat)->(be n s).length=s
 | 0=>rfl
 | s+1=>by simp [be,j0Z n s]
theorem j8X (n:Nat):(s:Nat)->isB (be n s)
 | 0=>by intro x hx;cases hx
 | s+1=>by
  intro x hx
  rcases List.mem_cons.1 hx with rfl | hx
  ·omega
  ·exact j8X n s x hx
theorem j0p {l m:List Int} (hl:isB l) (hm:isB m):isB (l++m):=λx hx=>(List.mem_append.1 hx).elim (hl x) (hm x)
theorem j0q {x:Int} {l:List Int} (hx:0<=x/\x<256) (hl:isB l):isB (x::l):=λy hy=>(List.mem_cons.1 hy).elim (λh=>h ▸ hx) (hl y)
theorem j3k:isB []:=λ_ h=>by cases h
noncomputable def wB (v:V):List Int:=
 bif v.1==1 then [1,v.2.1]
 else bif v.1==2 then 2::(bif decide (v.2.1<0) then 1 else 0)::be v.2.1.natAbs 6
 else bif v.1==3 then 3::nI v.2.2.size::Z1e v.2.2
 else [0]
noncomputable def j0W (l:List V):List Int:=nI l.length::l.flatMap wB
theorem j93 {v:V} (h:j0h v=true):(wB v).length<=32:=by
 rcases j0B h with rfl | ⟨n,_,rfl⟩ | ⟨n,_,rfl⟩ | ⟨s,hs,rfl⟩
 ·show (1:Nat)<=32;omega
 ·show (2:Nat)<=32;omega
 ·show (2::(bif decide (n<0) then 1 else 0)::be n.natAbs 6).length<=32
  simp [j0Z]
 ·show (3::nI s.size::Z1e s).length<=32
  simp [j0s];omega
theorem jeQ {v:V} (h:j0h v=true):isB (wB v):=by
 rcases j0B h with rfl | ⟨n,hn,rfl⟩ | ⟨n,_,rfl⟩ | ⟨s,hs,rfl⟩
 ·exact j0q (by omega) j3k
 ·exact j0q (by omega) (j0q (x:=n) (by omega) j3k)
 ·refine j0q (x:=2) (by omega) (j0q ?_ (j8X _ _))
  cases decide (n<0)<;>simp
 ·exact j0q (x:=3) (by omega) (j0q (x:=nI s.size) (by unfold nI;omega) (j8R s))
theorem jd8:(l:List V)->(∀ v∈l,j0h v=true)->(l.flatMap wB).length<=32 * l.length
 | [],_=>by simp
 | v::l,h=>by
  have h1:=j93 (h v (by simp))
  have h2:=jd8 l λv hv=>h v (List.mem_cons_of_mem _ hv)
  simp only [List.flatMap_cons,List.length_append,List.length_cons]
  omega
theorem jd7:(l:List V)->(∀ v∈l,j0h v=true)->isB (l.flatMap wB)
 | [],_=>j3k
 | v::l,h=>by
  rw [List.flatMap_cons]
  exact j0p (jeQ (h v (by simp))) (jd7 l λv hv=>h v (List.mem_cons_of_mem _ hv))
theorem jdn {l:List V} (hl:l.length<=255) (h:∀ v∈l,j0h v=true):isB (j0W l):=j0q (by unfold nI;omega) (jd7 l h)
end Go.PI.G
namespace Go.PI.G
open Go Go.PI Go.Proofs
theorem j33 (x lo hi:Int) (k:Bool->Res):j0a x lo hi k=k (decide (lo<=x/\x<=hi)):=by
 unfold j0a
 by_cases h:x>=lo
 ·rw [decide_eq_true h,cond_true]
  congr 1
  exact decide_eq_decide.2 (by omega)
 ·rw [decide_eq_false h,cond_false]
  congr 1
  exact (decide_eq_false (by omega)).symm
theorem jex (n:Int) (k:Bool->Res):j8P n k=k (jdf n):=j33 n _ _ k
theorem j9c (v:V) (k:Bool->Res):j2X v k=k (j0h v):=by
 unfold j2X j0h
 cases v.1==0
 ·cases v.1==1
  ·cases v.1==2
   ·cases v.1==3
    ·rfl
    ·cases v.2.1==0<;>rfl
   ·rw [cond_false,cond_false,cond_true,jex]
    cases jdf v.2.1<;>rfl
  ·cases v.2.1==0
   ·cases v.2.1==1<;>rfl
   ·rfl
 ·cases v.2.1==0<;>rfl
theorem jbh (v:V) (k:Bool->Res):j3B v k=k (j0h v):=by
 unfold j3B j0h
 simp only [j33,jeC]
 cases v.1==0
 ·cases v.1==1
  ·cases v.1==2
   ·cases v.1==3
    ·rfl
    ·cases v.2.1==0<;>rfl
   ·rw [cond_false,cond_false,cond_true,cond_false,cond_false,cond_true]
    show (bif jdf v.2.1 then _ else _)=_
    cases jdf v.2.1<;>rfl
  ·cases v.2.1==0
   ·cases v.2.1==1<;>rfl
   ·rfl
 ·cases v.2.1==0<;>rfl
end Go.PI.G
namespace Go.PI.G
open Go Go.PI
def msr:(τ:Ty)->El τ->Nat
 | .str,s=>ByteArray.size s
 | .slice e,l=>List.length (α:=El e) l+(List.map (msr e) l).sum
 | .pair a b,x=>msr a x.1+msr b x.2
 | .int _,_=>0
 | .bool,_=>0
 | .unit,_=>0
def wgt:(τ:Ty)->El τ->Nat
 | .str,_=>1
 | .slice e,l=>(List.map (wgt e) l).sum
 | .pair a b,x=>wgt a x.1+wgt b x.2
 | .int _,_=>1
 | .bool,_=>1
 | .unit,_=>0
def j5I:(τ:Ty)->El τ->Nat
 | .slice e,l=>(List.map (wgt e) l).sum
 | .pair a b,x=>j5I a x.1+j5I b x.2
 | .str,_=>0
 | .int _,_=>0
 | .bool,_=>0
 | .unit,_=>0
def j2u:Ty->Nat
 | .slice e=>j2u e
 | .pair a b=>j2u a+j2u b
 | .unit=>0
 | _=>1
theorem jbG {α:Type} (f g:α->Nat) (c:Nat) (h:∀ x,f x<=(g x+1) * c):(l:List α)->(l.map f).sum<=(l.length+(l.map g).sum) * c
 | []=>by simp
 | x::l=>by
  have h1:=h x
  have h2:=jbG f g c h l
  simp only [List.map_cons,List.sum_cons,List.length_cons]
  have:(l.length+1+(g x+(l.map g).sum)) * c=(g x+1) * c+(l.length+(l.map g).sum) * c:=by
   rw [<-Nat.add_mul];congr 1;omega
  omega
theorem jbH:(τ:Ty)->(x:El τ)->wgt τ x<=(msr τ x+1) * j2u τ
 | .str,_=>by simp [wgt,j2u]
 | .int _,_=>by simp [wgt,j2u]
 | .bool,_=>by simp [wgt,j2u]
 | .unit,_=>by simp [wgt]
 | .pair a b,x=>by
  have h1:=jbH a x.1
  have h2:=jbH b x.2
  simp only [wgt,msr,j2u,Nat.mul_add]
  have e1:(msr a x.1+1) * j2u a<=(msr a x.1+msr b x.2+1) * j2u a:=Nat.mul_le_mul_right _ (by omega)
  have e2:(msr b x.2+1) * j2u b<=(msr a x.1+msr b x.2+1) * j2u b:=Nat.mul_le_mul_right _ (by omega)
  omega
 | .slice e,l=>by
  have h1:=jbG (wgt e) (msr e) (j2u e) (jbH e) l
  simp only [wgt,msr,j2u]
  have e1:(List.length (α:=El e) l+(List.map (msr e) l).sum) * j2u e<=(List.length (α:=El e) l+(List.map (msr e) l).sum+1) * j2u e:=Nat.mul_le_mul_right _ (by omega)
  exact Nat.le_trans h1 e1
theorem j8S:(τ:Ty)->(x:El τ)->j5I τ x<=wgt τ x
 | .str,_=>Nat.zero_le _
 | .int _,_=>Nat.zero_le _
 | .bool,_=>Nat.zero_le _
 | .unit,_=>Nat.le_refl _
 | .pair a b,x=>Nat.add_le_add (j8S a x.1) (j8S b x.2)
 | .slice e,l=>Nat.le_refl _
noncomputable def dgt (x:Int):ByteArray:=Z34 [wu8 (Z8o (48+x))]
noncomputable def jfz (n:Nat):ByteArray:=if h:n<10 then dgt n else jfz (n / 10)++dgt ((n % 10:Nat):Int)
termination_by n
decreasing_by omega
noncomputable def mT (k:Int):ByteArray:=(⟨#[109]⟩:ByteArray)++jfz k.toNat
noncomputable def mk:(τ:Ty)->El τ->Int->El τ
 | .str,_,k=>mT k
 | .slice e,l,k=>mkL (wgt e) (mk e) l k
 | .pair a b,x,k=>(mk a x.1 k,mk b x.2 (k+(wgt a x.1:Int)))
 | .int .u8,_,k=>wu8 k
 | .int _,_,k=>k
 | .bool,_,k=>(Int.tmod k 3==0)
 | .unit,x,_=>x
noncomputable def mkT:(τ:Ty)->El τ->Int->El τ
 | .slice e,l,k=>mkL (wgt e) (mk e) l k
 | .pair a b,x,k=>(mkT a x.1 k,mkT b x.2 (k+(j5I a x.1:Int)))
 | .str,x,_=>x
 | .int _,x,_=>x
 | .bool,x,_=>x
 | .unit,x,_=>x
theorem jez (e:Ty) (l:List (El e)):msr (.slice e) l=l.length+(l.map (msr e)).sum:=rfl
theorem j4N {e:Ty} {l:List (El e)} {n:Nat} (h:msr (.slice e) l<=n):l.length<=n:=by
 have:msr (.slice e) l=l.length+(l.map (msr e)).sum:=rfl
 omega
theorem jbY {e:Ty} {l:List (El e)} {n:Nat} (h:msr (.slice e) l<=n) {x:El e} (hx:x∈l):msr e x<=n:=by
 have h1:msr (.slice e) l=l.length+(l.map (msr e)).sum:=rfl
 have:=Z8l (msr e) l x hx
 omega
theorem jcz {τ:Ty} {x:El τ} (hw:j2u τ<=200) (h:msr τ x<=1048576):wgt τ x<=209715400:=by
 have h1:=jbH τ x
 have h2:(msr τ x+1) * j2u τ<=1048577 * 200:=Nat.mul_le_mul (by omega) hw
 omega
theorem j5K (a b:Ty) (x:El (.pair a b)):wgt (.pair a b) x=wgt a x.1+wgt b x.2:=rfl
theorem j72 (k:IntKind) (x:El (.int k)):wgt (.int k) x=1:=rfl
theorem j5J (x:El .bool):wgt .bool x=1:=rfl
theorem j73 (x:El .str):wgt .str x=1:=rfl
theorem j6L (a b:Ty) (x:El (.pair a b)) (k:Int):mk (.pair a b) x k=(mk a x.1 k,mk b x.2 (k+(wgt a x.1:Int))):=rfl
theorem j5w (e:Ty) (l:El (.slice e)) (k:Int):mk (.slice e) l k=mkL (wgt e) (mk e) l k:=rfl
theorem j7V (x:El (.int .i64)) (k:Int):mk (.int .i64) x k=k:=rfl
theorem j98 (x:El (.int .u8)) (k:Int):mk (.int .u8) x k=wu8 k:=rfl
theorem j6K (x:El .bool) (k:Int):mk .bool x k=(Int.tmod k 3==0):=rfl
theorem j7W (x:El .str) (k:Int):mk .str x k=mT k:=rfl
theorem jcn (e:Ty) (l:El (.slice e)) (k:Int):mkT (.slice e) l k=mkL (wgt e) (mk e) l k:=rfl
theorem jdE (i:IntKind) (x:El (.int i)) (k:Int):mkT (.int i) x k=x:=rfl
theorem jde (x:El .bool) (k:Int):mkT .bool x k=x:=rfl
theorem jdF (x:El .str) (k:Int):mkT .str x k=x:=rfl
theorem jcy (a b:Ty) (x:El (.pair a b)):j5I (.pair a b) x=j5I a x.1+j5I b x.2:=rfl
theorem j9g (i:IntKind) (x:El (.int i)):j5I (.int i) x=0:=rfl
theorem j8z (x:El .bool):j5I .bool x=0:=rfl
theorem j9h (x:El .str):j5I .str x=0:=rfl
theorem jbZ {α:Type} (z:α) (l:List α) (i:Nat) (v:α) (h:i<l.length):nth z (upd l (i:Int) v) (i:Int)=v:=by
 rw [Z9h,Z9a _ _ _ (by simpa using h)];simp
theorem jcd {α:Type} (l:List α) (i:Int) (u v:α):upd (upd l i u) i v=upd l i v:=by
 unfold upd;simp
theorem jcc {α:Type} (l:List α) (i:Int) (v:α):(upd l i v).length=l.length:=by unfold upd;simp
end Go.PI.G
namespace Go.PI.G
open Go Go.PI
theorem jf7 {left:Int} (h:0<=left):szR left 0=left:=by unfold szR;rw [if_pos (by omega)];omega
theorem jeN {left:Int} {n rest:Nat} {F:Int->Res} {k:Int->Res} (h0:0<=left) (h1:left<=1048576) (hn:n<=maxLen) (hF:(n:Int)<=left->F (left-n)=k (szR (left-n) rest)) :
  (bif decide (Z8o (left-nI n)<0) then k (-1) else F (Z8o (left-nI n)))=k (szR left (n+rest)):=by
 unfold maxLen at hn
 rw [Z9j (by unfold nI;omega) (by unfold nI;omega)]
 unfold nI
 by_cases h:(n:Int)<=left
 ·rw [Z8I (by omega),cond_false,hF h,Z8W h]
 ·rw [Z8J (by omega),cond_true,Z8X h]
theorem jdr {left:Int} {k:Int->Res} (h0:0<=left):k left=k (szR left 0):=by rw [jf7 h0]
theorem j07 {i n:Nat} (h:i<n):inb (i:Int) n=true:=Z9k (by omega) (by omega)
theorem j03 {n:Int} (h: -9223372036854775808<=n/\n<9223372036854775808):Z8o n=n:=Z9j h.1 h.2
end Go.PI.G
set_option linter.unusedSimpArgs false
namespace Go.PI.G
open Go Go.PI Go.Proofs
def j1Z (l:List Int):Int:=l.foldl (λn x=>n * 256+x) 0
def seg (b:List Int) (at_ size:Nat):List Int:=(b.drop at_).take size
def tk (b:List Int) (at_ size:Nat):Int:=if at_+size<=b.length then j1Z (seg b at_ size) else 0
theorem pw (i:Nat) (h:i<=5):(256:Int) ^ i<=1099511627776:=by
 have:i=0\/i=1\/i=2\/i=3\/i=4\/i=5:=by omega
 rcases this with rfl | rfl | rfl | rfl | rfl | rfl<;>decide
theorem j4P {b:List Int} {at_ size:Nat} (h:at_+size<=b.length):(seg b at_ size).length=size:=by
 unfold seg;rw [List.length_take,List.length_drop];omega
theorem jfs {b:List Int} {at_ size:Nat} (h:at_+size<=b.length) (i:Nat) (hi:i<(seg b at_ size).length):(seg b at_ size)[i]=b[at_+i]'(by rw [j4P h] at hi;omega):=by
 simp only [seg,List.getElem_take,List.getElem_drop]
theorem j3Z {b:List Int} (hb:isB b) (at_ size:Nat):isB (seg b at_ size):=λx hx=>hb x (List.mem_of_mem_drop (List.mem_of_mem_take hx))
theorem j91 (b:List Int) (at_ size:Nat):sub b (at_:Int) ((at_:Int)+(size:Int))=seg b at_ size:=by
 unfold sub seg
 rw [show ((at_:Int)+(size:Int)).toNat=at_+size by omega,show ((at_:Int)).toNat=at_ by omega,List.drop_take]
 congr 1
 omega
theorem jfp (n x:Int) (hn:0<=n/\n<1099511627776) (hx:0<=x/\x<256):orI .i64 (Z9u .i64 n 8) (Z8o x)=n * 256+x:=by
 have h1:Z9u .i64 n 8=n * 256:=by
  unfold Z9u
  show Z8o (n * 2 ^ min (8:Int).toNat 64)=_
  rw [show ((2:Int) ^ min (8:Int).toNat 64)=256 by decide]
  exact j03 (by omega)
 rw [h1,j03 (n:=x) (by omega)]
 unfold orI
 show Z8o (((BitVec.ofInt 64 (n * 256) ||| BitVec.ofInt 64 x).toNat:Nat):Int)=_
 obtain ⟨a,rfl⟩:∃ a:Nat,n=(a:Int):=⟨n.toNat,by omega⟩
 obtain ⟨c,rfl⟩:∃ c:Nat,x=(c:Int):=⟨x.toNat,by omega⟩
 have e1:BitVec.ofInt 64 ((a:Int) * 256)=BitVec.ofNat 64 (a * 256):=by
  rw [show (a:Int) * 256=((a * 256:Nat):Int) by omega,BitVec.ofInt_natCast]
 rw [e1,BitVec.ofInt_natCast,BitVec.toNat_or,BitVec.toNat_ofNat,BitVec.toNat_ofNat,Nat.mod_eq_of_lt (by omega),Nat.mod_eq_of_lt (by omega)]
 have:=Nat.two_pow_add_eq_or_of_lt (i:=8) (b:=c) (by omega) a
 rw [show a * 256=2 ^ 8 * a by omega,<-this]
 rw [j03 (by omega)]
 omega
theorem jed (b:List Int) (hb:isB b) (hl:b.length<=1048576) (at_ size:Nat) (ha:at_<=1000000000000) (hs:1<=size/\size<=6) (k:Int->Bool->Res):j5h b (at_:Int) (size:Int) k=k (tk b at_ size) (decide (at_+size<=b.length)):=by
 unfold j5h j4T tk
 rw [decide_eq_false (show ¬ (size:Int)<1 by omega),cond_false,decide_eq_false (show ¬ (size:Int)>6 by omega),cond_false,decide_eq_false (show ¬ (at_:Int)<0 by omega),cond_false,j03 (by unfold nI;omega)]
 by_cases h:at_+size<=b.length
 ·rw [decide_eq_false (show ¬ (at_:Int)>nI b.length-(size:Int) by unfold nI;omega)]
  dsimp only
  rw [cond_false,if_pos h,decide_eq_true h]
  unfold j4S
  have hsl:=j4P h
  have:=Z73 (seg b at_ size) (λi a=>(a,i)) (λn x=>n * 256+x) (λi a=>0<=a/\a<256 ^ i) (step:=j5y b (at_:Int) (size:Int)) (λn=>k n true) (λn=>k n true) 0 (by unfold LIM;omega) ⟨by omega,by decide⟩ (λi a hi hp=>by
   have:=j3Z hb at_ size _ (List.getElem_mem hi)
   rw [Int.pow_succ]
   omega) (λi a rec hi hp=>by
   have hx:=j3Z hb at_ size _ (List.getElem_mem hi)
   have hi':i<size:=by omega
   have:=pw i (by omega)
   show j2h b _ _ _ _ _ _=_
   unfold j2h
   dsimp only
   rw [decide_eq_true (show (i:Int)<(size:Int) by omega),cond_true,j03 (n:=(at_:Int)+(i:Int)) (by omega),show (at_:Int)+(i:Int)=((at_+i:Nat):Int) by omega,j07 (by omega),cond_true,Z9a _ _ _ (by omega),<-jfs h i hi,j03 (n:=a * 256) (by omega),j03 (n:=(seg b at_ size)[i]) (by omega),j03 (by omega),j03 (n:=(i:Int)+1) (by omega)]) (λa rec _=>by
   show j2h b _ _ _ _ _ _=_
   unfold j2h
   dsimp only
   rw [hsl,decide_eq_false (by omega),cond_false])
  exact this
 ·rw [decide_eq_true (show (at_:Int)>nI b.length-(size:Int) by unfold nI;omega)]
  dsimp only
  rw [cond_true,if_neg h,decide_eq_false h]
theorem je0 (b:List Int) (hb:isB b) (hl:b.length<=1048576) (at_ size:Nat) (ha:at_<=1000000000000) (hs:1<=size/\size<=6) (k:Int->Bool->Res):j5g b (at_:Int) (size:Int) k=k (tk b at_ size) (decide (at_+size<=b.length)):=by
 unfold j5g tk
 rw [j33,j33,decide_eq_true (show (1:Int)<=(size:Int)/\(size:Int)<=6 by omega),Bool.not_true,cond_false]
 by_cases h0:at_<=b.length
 ·rw [decide_eq_true (show (0:Int)<=(at_:Int)/\(at_:Int)<=nI b.length by unfold nI;omega),Bool.not_true,cond_false,j03 (n:=nI b.length-(at_:Int)) (by unfold nI;omega)]
  by_cases h:at_+size<=b.length
  ·rw [decide_eq_false (show ¬ nI b.length-(at_:Int)<(size:Int) by unfold nI;omega),cond_false,if_pos h,decide_eq_true h,j03 (n:=(at_:Int)+(size:Int)) (by omega)]
   have hc:Z6Z (at_:Int) ((at_:Int)+(size:Int)) b.length=true:=decide_eq_true (by omega)
   rw [hc,cond_true,j91]
   unfold j4H
   have hsl:=j4P h
   have:=Z73 (seg b at_ size) (λi a=>(a,i)) (λn x=>n * 256+x) (λi a=>0<=a/\a<256 ^ i) (step:=j5p (seg b at_ size) (nI (seg b at_ size).length)) (λn=>k n true) (λn=>k n true) 0 (by unfold LIM;omega) ⟨by omega,by decide⟩ (λi a hi hp=>by
    have:=j3Z hb at_ size _ (List.getElem_mem hi)
    rw [Int.pow_succ]
    omega) (λi a rec hi hp=>by
    have hx:=j3Z hb at_ size _ (List.getElem_mem hi)
    have:=pw i (by omega)
    show j2b _ _ _ _ _ _=_
    unfold j2b
    dsimp only
    rw [Z9q hi,cond_true,j07 hi,cond_true,Z9a _ _ _ hi,jfp _ _ (by omega) hx,j03 (n:=(i:Int)+1) (by omega)]) (λa rec _=>by
    show j2b _ _ _ _ _ _=_
    unfold j2b
    dsimp only
    rw [Z9p,cond_false])
   exact this
  ·rw [decide_eq_true (show nI b.length-(at_:Int)<(size:Int) by unfold nI;omega),cond_true,if_neg h,decide_eq_false h]
 ·rw [decide_eq_false (show ¬ ((0:Int)<=(at_:Int)/\(at_:Int)<=nI b.length) by unfold nI;omega),Bool.not_false,cond_true,if_neg (by omega),decide_eq_false (by omega)]
end Go.PI.G
namespace Go.PI.G
open Go Go.PI Go.Proofs
theorem j9S {b:List Int} {at_:Nat} {x post:List Int} (h1:1<=x.length) (h:b.drop at_=x++post):at_+x.length<=b.length/\tk b at_ x.length=j1Z x/\b.drop (at_+x.length)=post:=by
 have hl:=congrArg List.length h
 rw [List.length_drop,List.length_append] at hl
 have hle:at_+x.length<=b.length:=by omega
 refine ⟨hle,?_,?_⟩
 ·unfold tk seg
  rw [if_pos hle,h,List.take_left]
 ·rw [<-List.drop_drop,h,List.drop_left]
theorem j5k {b:List Int} {at_:Nat} {x:Int} {post:List Int} (h:b.drop at_=x::post):at_+1<=b.length/\tk b at_ 1=x/\b.drop (at_+1)=post:=by
 have:=j9S (x:=[x]) (by simp) h
 have e:j1Z [x]=x:=by simp [j1Z]
 rw [e] at this
 exact this
theorem j9e {b:List Int} (hb:isB b) (at_:Nat):0<=tk b at_ 1/\tk b at_ 1<256:=by
 unfold tk
 by_cases h:at_+1<=b.length
 ·rw [if_pos h]
  have hl:=j4P h
  obtain ⟨x,hx⟩:=List.length_eq_one_iff.1 hl
  have:=j3Z hb at_ 1 x (by rw [hx];simp)
  rw [hx]
  simp only [j1Z,List.foldl_cons,List.foldl_nil]
  omega
 ·rw [if_neg h];omega
theorem jcw {b:List Int} (hb:isB b) (at_:Nat):0<=tk b at_ 6/\tk b at_ 6<281474976710656:=by
 unfold tk
 by_cases h:at_+6<=b.length
 ·rw [if_pos h]
  have hl:=j4P h
  have hB:=j3Z hb at_ 6
  match seg b at_ 6,hl,hB with
  | [x0,x1,x2,x3,x4,x5],_,hB=>
   have h0:=hB x0 (by simp)
   have h1:=hB x1 (by simp)
   have h2:=hB x2 (by simp)
   have h3:=hB x3 (by simp)
   have h4:=hB x4 (by simp)
   have h5:=hB x5 (by simp)
   simp only [j1Z,List.foldl_cons,List.foldl_nil]
   omega
 ·rw [if_neg h];omega
theorem jeB (n:Nat) (h:n<=1099511627775):j1Z (be n 6)=(n:Int):=by
 simp only [j1Z,be,List.foldl_cons,List.foldl_nil]
 rw [show (256:Nat) ^ 5=1099511627776 by decide,show (256:Nat) ^ 4=4294967296 by decide,show (256:Nat) ^ 3=16777216 by decide,show (256:Nat) ^ 2=65536 by decide,show (256:Nat) ^ 1=256 by decide,show (256:Nat) ^ 0=1 by decide]
 omega
theorem jea (b:List Int) (hb:isB b) (hl:b.length<=1048576) (at_ size:Nat) (ha:at_<=1000000000000) (hs:1<=size/\size<=6) (k:Int->(List Int×Int)->Res):j00 (size:Int) (b,(at_:Int)) k=k (tk b at_ size) (b,((at_+size:Nat):Int)):=by
 unfold j00
 dsimp only
 rw [jed b hb hl at_ size ha hs,j03 (by omega)]
 rfl
theorem j81 (b:List Int) (hb:isB b) (hl:b.length<=1048576) (at_:Nat) (ha:at_<=1000000000000) (k:Int->(List Int×Int)->Res):j00 1 (b,(at_:Int)) k=k (tk b at_ 1) (b,((at_+1:Nat):Int)):=jea b hb hl at_ 1 ha (by omega) k
theorem jfB (b:List Int) (hb:isB b) (hl:b.length<=1048576) (at_:Nat) (ha:at_<=1000000000000) (k:Int->(List Int×Int)->Res):j00 6 (b,(at_:Int)) k=k (tk b at_ 6) (b,((at_+6:Nat):Int)):=jea b hb hl at_ 6 ha (by omega) k
def j97 (b:List Int) (at_ size:Nat) (bad:Bool) (k:Int->(List Int×Int×Bool)->Res):Res:=bif bad then k 0 (b,(at_:Int),true) else bif decide (at_+size<=b.length) then k (tk b at_ size) (b,((at_+size:Nat):Int),false) else k 0 (b,(at_:Int),true)
theorem jdX (b:List Int) (hb:isB b) (hl:b.length<=1048576) (at_ size:Nat) (ha:at_<=1000000000000) (hs:1<=size/\size<=6) (bad:Bool) (k:Int->(List Int×Int×Bool)->Res):j05 (size:Int) (b,(at_:Int),bad) k=j97 b at_ size bad k:=by
 unfold j05 j97
 dsimp only
 rw [je0 b hb hl at_ size ha hs]
 cases bad
 ·rw [cond_false,cond_false]
  cases decide (at_+size<=b.length)
  ·rfl
  ·rw [Bool.not_true,cond_false,cond_true,j03 (by omega)]
   rfl
 ·rfl
theorem jdL {w:V} (h:j0h w=true):wB w=w.1::(wB w).tail:=by
 rcases j0B h with rfl | ⟨n,_,rfl⟩ | ⟨n,_,rfl⟩ | ⟨s,_,rfl⟩<;>rfl
theorem jff (b:List Int) (hb:isB b) (hl:b.length<=1048576) (at_ m:Nat) (ha:at_<=1000000000000) (hm:m<70000):∃ (s:ByteArray) (at':Nat),at'<=at_+1050000/\(∀ k,j02 (m:Int) (b,(at_:Int)) k=k s (b,(at':Int)))/\∀ (x:List Int) post,x.length=m->at_<=b.length->b.drop at_=x++post->s=Z34 x/\b.drop at'=post:=by
 by_cases h:at_+m<=b.length
 ·refine ⟨Z34 (seg b at_ m),at_+m,by omega,λk=> ?_,λx post hx _ hd=> ?_⟩
  ·unfold j02 j32
   dsimp only
   rw [j03 (n:=nI b.length-(at_:Int)) (by unfold nI;omega),decide_eq_false (show ¬ (m:Int)>nI b.length-(at_:Int) by unfold nI;omega),cond_false,decide_eq_false (show ¬ (at_:Int)>nI b.length by unfold nI;omega),cond_false,j03 (n:=(at_:Int)+(m:Int)) (by omega),show (at_:Int)+(m:Int)-(m:Int)=(at_:Int) by omega,j03 (n:=(at_:Int)) (by omega)]
   have hc:Z6Z (at_:Int) ((at_:Int)+(m:Int)) b.length=true:=decide_eq_true (by omega)
   rw [hc,cond_true,j91]
   rfl
  ·subst hx
   unfold seg
   rw [hd,List.take_left,<-List.drop_drop,hd,List.drop_left]
   exact ⟨rfl,rfl⟩
 ·refine ⟨eS,b.length+1,by omega,λk=> ?_,λx post hx hle hd=> ?_⟩
  ·unfold j02 j32
   dsimp only
   rw [j03 (n:=nI b.length-(at_:Int)) (by unfold nI;omega),decide_eq_true (show (m:Int)>nI b.length-(at_:Int) by unfold nI;omega),cond_true,cond_true,j03 (by unfold nI;omega)]
   rfl
  ·have hl:=congrArg List.length hd
   rw [List.length_drop,List.length_append] at hl
   omega
theorem jfM (b:List Int) (hb:isB b) (hl:b.length<=1048576) (at_:Nat) (ha:at_<=900000000000):∃ (v:V) (at':Nat),at'<=at_+1050010/\(∀ k,j0Y (b,(at_:Int)) k=k v (b,(at':Int)))/\∀ w post,j0h w=true->b.drop at_=wB w++post->v=w/\b.drop at'=post:=by
 have hd1:∀ w post,j0h w=true->b.drop at_=wB w++post->tk b at_ 1=w.1/\b.drop (at_+1)=(wB w).tail++post:=λw post hw h=>by
  rw [jdL hw,List.cons_append] at h
  exact ⟨(j5k h).2.1,(j5k h).2.2⟩
 have hu:∀ k,j0Y (b,(at_:Int)) k=j0H (tk b at_ 1) (tk b at_ 1,0,eS) (b,((at_+1:Nat):Int)) k:=λk=>by
  unfold j0Y
  rw [j81 b hb hl at_ (by omega)]
 by_cases t1:tk b at_ 1=1
 ·refine ⟨(1,tk b (at_+1) 1,eS),at_+1+1,by omega,λk=> ?_,λw post hw h=> ?_⟩
  ·rw [hu,t1]
   unfold j0H
   rw [show ((1:Int)==1)=true from rfl,cond_true,j81 b hb hl _ (by omega)]
  ·obtain ⟨e1,e2⟩:=hd1 w post hw h
   rcases j0B hw with rfl | ⟨n,hn,rfl⟩ | ⟨n,hn,rfl⟩ | ⟨s,hs,rfl⟩
   ·simp only at e1;omega
   ·obtain ⟨_,f1,f2⟩:=j5k (x:=n) (post:=post) e2
    exact ⟨by rw [f1],f2⟩
   ·simp only at e1;omega
   ·simp only at e1;omega
 by_cases t2:tk b at_ 1=2
 ·have r6:=jcw hb (at_+1+1)
  refine ⟨(2,if tk b (at_+1) 1=1 then 0-tk b (at_+1+1) 6 else tk b (at_+1+1) 6,eS),at_+1+1+6,by omega,λk=> ?_,λw post hw h=> ?_⟩
  ·rw [hu,t2]
   unfold j0H
   rw [show ((2:Int)==1)=false from rfl,cond_false,show ((2:Int)==2)=true from rfl,cond_true,j81 b hb hl _ (by omega),jfB b hb hl _ (by omega),j03 (by omega)]
   by_cases h1:tk b (at_+1) 1=1
   ·rw [if_pos h1,h1];rfl
   ·rw [if_neg h1,show (tk b (at_+1) 1==1)=false by simp [h1]];rfl
  ·obtain ⟨e1,e2⟩:=hd1 w post hw h
   rcases j0B hw with rfl | ⟨n,hn,rfl⟩ | ⟨n,hn,rfl⟩ | ⟨s,hs,rfl⟩
   ·simp only at e1;omega
   ·simp only at e1;omega
   ·obtain ⟨_,f1,f2⟩:=j5k (x:=bif decide (n<0) then 1 else 0) (post:=be n.natAbs 6++post) e2
    have h6:=j9S (x:=be n.natAbs 6) (post:=post) (by rw [j0Z];omega) f2
    rw [j0Z,jeB _ (by omega)] at h6
    refine ⟨?_,h6.2.2⟩
    rw [f1,h6.2.1]
    by_cases h0:n<0
    ·rw [decide_eq_true h0,cond_true,if_pos rfl,show (0:Int)-(n.natAbs:Int)=n by omega]
    ·rw [decide_eq_false h0,cond_false,if_neg (by omega),show ((n.natAbs:Nat):Int)=n by omega]
   ·simp only at e1;omega
 by_cases t3:tk b at_ 1=3
 ·have r1:=j9e hb (at_+1)
  obtain ⟨m,hm⟩:∃ m:Nat,tk b (at_+1) 1=(m:Int):=⟨(tk b (at_+1) 1).toNat,by omega⟩
  obtain ⟨s,at',q1,q2,q3⟩:=jff b hb hl (at_+1+1) m (by omega) (by omega)
  refine ⟨(3,0,s),at',by omega,λk=> ?_,λw post hw h=> ?_⟩
  ·rw [hu,t3]
   unfold j0H
   rw [show ((3:Int)==1)=false from rfl,cond_false,show ((3:Int)==2)=false from rfl,cond_false,show ((3:Int)==3)=true from rfl,cond_true,j81 b hb hl _ (by omega),hm,q2]
  ·obtain ⟨e1,e2⟩:=hd1 w post hw h
   rcases j0B hw with rfl | ⟨n,hn,rfl⟩ | ⟨n,hn,rfl⟩ | ⟨x,hx,rfl⟩
   ·simp only at e1;omega
   ·simp only at e1;omega
   ·simp only at e1;omega
   ·obtain ⟨f0,f1,f2⟩:=j5k (x:=nI x.size) (post:=Z1e x++post) e2
    have:=q3 (Z1e x) post (by rw [j0s];unfold nI at f1;omega) (by omega) f2
    rw [j68] at this
    exact ⟨by rw [this.1],this.2⟩
 ·refine ⟨(tk b at_ 1,0,eS),at_+1,by omega,λk=> ?_,λw post hw h=> ?_⟩
  ·rw [hu]
   unfold j0H
   rw [show (tk b at_ 1==1)=false by simp [t1],cond_false,show (tk b at_ 1==2)=false by simp [t2],cond_false,show (tk b at_ 1==3)=false by simp [t3],cond_false]
  ·obtain ⟨e1,e2⟩:=hd1 w post hw h
   rcases j0B hw with rfl | ⟨n,hn,rfl⟩ | ⟨n,hn,rfl⟩ | ⟨x,hx,rfl⟩
   ·exact ⟨by rw [e1],e2⟩
   ·simp only at e1;omega
   ·simp only at e1;omega
   ·simp only at e1;omega
end Go.PI.G
namespace Go.PI.G
open Go Go.PI Go.Proofs
theorem iN (b:List Int) (hb:isB b) (hl:b.length<=1048576) (at_ size:Nat) (ha:at_<=1000000000000) (hs:size=1\/size=6) (bad:Bool):∃ (n:Int) (at':Nat) (bad':Bool),at'<=at_+6/\0<=n/\n<281474976710656/\(size=1->n<256)/\(∀ k,j05 (size:Int) (b,(at_:Int),bad) k=k n (b,(at':Int),bad'))/\(bad=false->∀ x post,x.length=size->b.drop at_=x++post->n=j1Z x/\bad'=false/\b.drop at'=post/\at'<=b.length):=by
 have hs':1<=size/\size<=6:=by omega
 cases bad
 ·by_cases h:at_+size<=b.length
  ·have hr:0<=tk b at_ size/\tk b at_ size<281474976710656/\(size=1->tk b at_ size<256):=by
    rcases hs with rfl | rfl
    ·have:=j9e hb at_
     exact ⟨this.1,by omega,λ_=>this.2⟩
    ·have:=jcw hb at_
     exact ⟨this.1,this.2,λh=>by omega⟩
   refine ⟨tk b at_ size,at_+size,false,by omega,hr.1,hr.2.1,hr.2.2,λk=> ?_,λ_ x post hx hd=> ?_⟩
   ·rw [jdX b hb hl at_ size ha hs']
    unfold j97
    rw [cond_false,decide_eq_true h,cond_true]
   ·subst hx
    have:=j9S hs'.1 hd
    exact ⟨this.2.1,rfl,this.2.2,this.1⟩
  ·refine ⟨0,at_,true,by omega,by omega,by omega,λ_=>by omega,λk=> ?_,λ_ x post hx hd=> ?_⟩
   ·rw [jdX b hb hl at_ size ha hs']
    unfold j97
    rw [cond_false,decide_eq_false h,cond_false]
   ·subst hx
    exact absurd (j9S hs'.1 hd).1 h
 ·refine ⟨0,at_,true,by omega,by omega,by omega,λ_=>by omega,λk=> ?_,λh=>by cases h⟩
  rw [jdX b hb hl at_ size ha hs']
  rfl
theorem jfd (b:List Int) (hb:isB b) (hl:b.length<=1048576) (at_:Nat) (ha:at_<=900000000000) (bad:Bool):∃ (s:ByteArray) (at':Nat) (bad':Bool),at'<=at_+300/\(∀ k,j08 (b,(at_:Int),bad) k=k s (b,(at':Int),bad'))/\(bad=false->∀ (x:ByteArray) post,x.size<=30->b.drop at_=nI x.size::(Z1e x++post)->s=x/\bad'=false/\b.drop at'=post):=by
 obtain ⟨n,a1,b1,q0,q1,q2,q3,q4,q5⟩:=iN b hb hl at_ 1 (by omega) (.inl rfl) bad
 have hn:=q3 rfl
 obtain ⟨m,rfl⟩:∃ m:Nat,n=(m:Int):=⟨n.toNat,by omega⟩
 have hu:∀ k,j08 (b,(at_:Int),bad) k=j0f (m:Int) (b,(a1:Int),b1) λr1 bt=>k (Z34 r1) bt:=λk=>by
  unfold j08
  exact q4 _
 cases b1
 ·by_cases h:a1+m<=b.length
  ·refine ⟨Z34 (seg b a1 m),a1+m,false,by omega,λk=> ?_,λhbad x post hx hd=> ?_⟩
   ·rw [hu]
    unfold j0f
    dsimp only
    rw [cond_false,j03 (n:=nI b.length-(a1:Int)) (by unfold nI;omega),decide_eq_false (show ¬ (m:Int)>nI b.length-(a1:Int) by unfold nI;omega),cond_false,j03 (n:=(a1:Int)+(m:Int)) (by omega),show (a1:Int)+(m:Int)-(m:Int)=(a1:Int) by omega,j03 (n:=(a1:Int)) (by omega)]
    have hc:Z6Z (a1:Int) ((a1:Int)+(m:Int)) b.length=true:=decide_eq_true (by omega)
    rw [hc,cond_true,j91]
    rfl
   ·obtain ⟨f1,f2,f3,f4⟩:=q5 hbad [nI x.size] (Z1e x++post) rfl hd
    have e:j1Z [nI x.size]=nI x.size:=by simp [j1Z]
    rw [e] at f1
    have hm:m=(Z1e x).length:=by rw [j0s];unfold nI at f1;omega
    subst hm
    unfold seg
    rw [f3,List.take_left,<-List.drop_drop,f3,List.drop_left,j68]
    exact ⟨rfl,rfl,rfl⟩
  ·refine ⟨Z34 [],a1,true,by omega,λk=> ?_,λhbad x post hx hd=> ?_⟩
   ·rw [hu]
    unfold j0f
    dsimp only
    rw [cond_false,j03 (n:=nI b.length-(a1:Int)) (by unfold nI;omega),decide_eq_true (show (m:Int)>nI b.length-(a1:Int) by unfold nI;omega),cond_true]
   ·obtain ⟨f1,f2,f3,f4⟩:=q5 hbad [nI x.size] (Z1e x++post) rfl hd
    have e:j1Z [nI x.size]=nI x.size:=by simp [j1Z]
    rw [e] at f1
    have hm:m=(Z1e x).length:=by rw [j0s];unfold nI at f1;omega
    have hl:=congrArg List.length f3
    rw [List.length_drop,List.length_append] at hl
    omega
 ·refine ⟨Z34 [],a1,true,by omega,λk=> ?_,λhbad x post hx hd=> ?_⟩
  ·rw [hu];rfl
  ·exact absurd (q5 hbad [nI x.size] (Z1e x++post) rfl hd).2.1 (by simp)
theorem ja0 (x:Int):j1Z [x]=x:=by simp [j1Z]
theorem jfI (b:List Int) (hb:isB b) (hl:b.length<=1048576) (at_:Nat) (ha:at_<=800000000000) (bad:Bool):∃ (v:V) (at':Nat) (bad':Bool),at'<=at_+400/\(∀ k,j0D (b,(at_:Int),bad) k=k v (b,(at':Int),bad'))/\(bad=false->∀ w post,j0h w=true->b.drop at_=wB w++post->v=w/\bad'=false/\b.drop at'=post):=by
 obtain ⟨t,a1,b1,q0,q1,q2,q3,q4,q5⟩:=iN b hb hl at_ 1 (by omega) (.inl rfl) bad
 have hd1:bad=false->∀ w post,j0h w=true->b.drop at_=wB w++post->t=w.1/\b1=false/\b.drop a1=(wB w).tail++post:=λhbad w post hw h=>by
  rw [jdL hw,List.cons_append] at h
  obtain ⟨f1,f2,f3,f4⟩:=q5 hbad [w.1] _ rfl h
  rw [ja0] at f1
  exact ⟨f1,f2,f3⟩
 have hu:∀ k,j0D (b,(at_:Int),bad) k=j0t t (t,0,eS) (b,(a1:Int),b1) k:=λk=>by
  unfold j0D
  exact q4 _
 obtain ⟨n2,a2,b2,p0,p1,p2,p3,p4,p5⟩:=iN b hb hl a1 1 (by omega) (.inl rfl) b1
 by_cases t1:t=1
 ·refine ⟨(1,n2,eS),a2,b2,by omega,λk=> ?_,λhbad w post hw h=> ?_⟩
  ·rw [hu,t1]
   unfold j0t
   rw [show ((1:Int)==1)=true from rfl,cond_true]
   exact p4 _
  ·obtain ⟨e1,e2,e3⟩:=hd1 hbad w post hw h
   rcases j0B hw with rfl | ⟨n,hn,rfl⟩ | ⟨n,hn,rfl⟩ | ⟨s,hs,rfl⟩
   ·simp only at e1;omega
   ·obtain ⟨f1,f2,f3,_⟩:=p5 e2 [n] post rfl e3
    rw [ja0] at f1
    exact ⟨by rw [f1],f2,f3⟩
   ·simp only at e1;omega
   ·simp only at e1;omega
 by_cases t2:t=2
 ·obtain ⟨n3,a3,b3,r0,r1,r2,r3,r4,r5⟩:=iN b hb hl a2 6 (by omega) (.inr rfl) b2
  refine ⟨(2,if n2=1 then 0-n3 else n3,eS),a3,b3,by omega,λk=> ?_,λhbad w post hw h=> ?_⟩
  ·rw [hu,t2]
   unfold j0t
   rw [show ((2:Int)==1)=false from rfl,cond_false,show ((2:Int)==2)=true from rfl,cond_true]
   refine (p4 _).trans ?_
   refine (r4 _).trans ?_
   rw [j03 (by omega)]
   by_cases h1:n2=1
   ·rw [if_pos h1,h1];rfl
   ·rw [if_neg h1,show (n2==1)=false by simp [h1]];rfl
  ·obtain ⟨e1,e2,e3⟩:=hd1 hbad w post hw h
   rcases j0B hw with rfl | ⟨n,hn,rfl⟩ | ⟨n,hn,rfl⟩ | ⟨s,hs,rfl⟩
   ·simp only at e1;omega
   ·simp only at e1;omega
   ·obtain ⟨f1,f2,f3,_⟩:=p5 e2 [bif decide (n<0) then 1 else 0] (be n.natAbs 6++post) rfl e3
    obtain ⟨g1,g2,g3,_⟩:=r5 f2 (be n.natAbs 6) post (j0Z _ _) f3
    rw [ja0] at f1
    rw [jeB _ (by omega)] at g1
    refine ⟨?_,g2,g3⟩
    rw [f1,g1]
    by_cases h0:n<0
    ·rw [decide_eq_true h0,cond_true,if_pos rfl,show (0:Int)-(n.natAbs:Int)=n by omega]
    ·rw [decide_eq_false h0,cond_false,if_neg (by omega),show ((n.natAbs:Nat):Int)=n by omega]
   ·simp only at e1;omega
 by_cases t3:t=3
 ·obtain ⟨s,a3,b3,r0,r4,r5⟩:=jfd b hb hl a1 (by omega) b1
  refine ⟨(3,0,s),a3,b3,by omega,λk=> ?_,λhbad w post hw h=> ?_⟩
  ·rw [hu,t3]
   unfold j0t
   rw [show ((3:Int)==1)=false from rfl,cond_false,show ((3:Int)==2)=false from rfl,cond_false,show ((3:Int)==3)=true from rfl,cond_true]
   exact r4 _
  ·obtain ⟨e1,e2,e3⟩:=hd1 hbad w post hw h
   rcases j0B hw with rfl | ⟨n,hn,rfl⟩ | ⟨n,hn,rfl⟩ | ⟨x,hx,rfl⟩
   ·simp only at e1;omega
   ·simp only at e1;omega
   ·simp only at e1;omega
   ·obtain ⟨f1,f2,f3⟩:=r5 e2 x post hx e3
    exact ⟨by rw [f1],f2,f3⟩
 ·refine ⟨(t,0,eS),a1,b1,by omega,λk=> ?_,λhbad w post hw h=> ?_⟩
  ·rw [hu]
   unfold j0t
   rw [show (t==1)=false by simp [t1],cond_false,show (t==2)=false by simp [t2],cond_false,show (t==3)=false by simp [t3],cond_false]
  ·obtain ⟨e1,e2,e3⟩:=hd1 hbad w post hw h
   rcases j0B hw with rfl | ⟨n,hn,rfl⟩ | ⟨n,hn,rfl⟩ | ⟨x,hx,rfl⟩
   ·exact ⟨by rw [e1],e2,e3⟩
   ·simp only at e1;omega
   ·simp only at e1;omega
   ·simp only at e1;omega
end Go.PI.G
namespace Go.PI.G
open Go Go.PI Go.Proofs
theorem jeD {P:Nat->Prop} (h0:P 0) (h1:P 1) (h2:P 2) (h3:P 3) (h4:P 4) (h5:P 5) (s:Nat) (h:s<=5):P s:=by
 have:s=0\/s=1\/s=2\/s=3\/s=4\/s=5:=by omega
 rcases this with rfl | rfl | rfl | rfl | rfl | rfl<;>assumption
theorem jdk (s:Nat) (hs:s<=6) (k:Int->Res):j5j (s:Int) k=k ((256:Int) ^ s):=by
 unfold j5j j70
 have hl:(List.replicate s ()).length=s:=by simp
 refine Z73 (List.replicate s ()) (λi a=>(a,i)) (λ(a:Int) _=>a * 256) (λi a=>a=(256:Int) ^ i) (step:=j5F (s:Int)) (λp=>k p) (λ_=>k ((256:Int) ^ s)) 1 (by rw [hl];unfold LIM;omega) (by simp) (λi a hi hp=>by
  rw [Int.pow_succ,hp]) (λi a rec hi hp=>by
  rw [hl] at hi
  show j2n _ _ _ _ _=_
  unfold j2n
  dsimp only
  have h1:=pw i (by omega)
  have h2:(0:Int)<256 ^ i:=Int.pow_pos (by omega)
  rw [decide_eq_true (show (i:Int)<(s:Int) by omega),cond_true,j03 (n:=a * 256) (by rw [hp];omega),j03 (by omega)]) (λa rec hp=>by
  rw [hl] at hp ⊢
  show j2n _ _ _ _ _=_
  unfold j2n
  dsimp only
  rw [decide_eq_false (by omega),cond_false,hp])
theorem jeo (n s:Nat) (h:n<=1099511627775) (hs:s<=5):wu8 (Int.tmod (Z8o (Int.tdiv (n:Int) ((256:Int) ^ s))) 256)=((n / 256 ^ s % 256:Nat):Int):=by
 have e:((256:Int) ^ s)=((256 ^ s:Nat):Int):=by simp
 have hd:n / 256 ^ s<=n:=Nat.div_le_self _ _
 have e2:Int.tdiv (n:Int) ((256 ^ s:Nat):Int)=((n / 256 ^ s:Nat):Int):=by
  rw [Int.tdiv_eq_ediv_of_nonneg (by omega)]
  exact (Int.natCast_ediv _ _).symm
 rw [e]
 generalize hq:Int.tdiv (n:Int) ((256 ^ s:Nat):Int)=q at e2 ⊢
 generalize n / 256 ^ s=d at e2 hd ⊢
 subst e2
 rw [j03 (by omega),Int.tmod_eq_emod_of_nonneg (by omega),jdt]
 omega
theorem jen (n s:Nat) (h:n<=1099511627775) (hs:s<=5):wu8 (Z9v .i64 (n:Int) (Z8o (8 * (s:Int))))=((n / 256 ^ s % 256:Nat):Int):=by
 have e:∀ s:Nat,s<=5->(2:Int) ^ min (Z8o (8 * (s:Int))).toNat 64=((256 ^ s:Nat):Int):=λs hs=>by
  refine jeD (P:=λs=>(2:Int) ^ min (Z8o (8 * (s:Int))).toNat 64=((256 ^ s:Nat):Int)) ?_ ?_ ?_ ?_ ?_ ?_ s hs<;>decide
 unfold Z9v
 show wu8 (Int.fdiv (n:Int) (2 ^ min (Z8o (8 * (s:Int))).toNat 64))=_
 rw [e s hs,Int.fdiv_eq_ediv_of_nonneg _ (Int.natCast_nonneg _),<-Int.natCast_ediv,jdt]
 omega
theorem jdl (n:Nat) (hn:n<=1099511627775) (k:List Int->Res):∀ (s m:Nat) (out:List Int),s<=6->s<m->out.length+s<=1000000->Z14 (j5A (n:Int)) m (out,(s:Int)-1) k=k (out++be n s):=by
 intro s
 induction s with
 | zero=>
  intro m out hs hm ho
  obtain ⟨m,rfl⟩:∃ e,m=e+1:=⟨m-1,by omega⟩
  rw [Z8C]
  show j2i _ _ _ _ _=_
  unfold j2i
  dsimp only
  rw [decide_eq_false (by omega),cond_false]
  simp [be]
 | succ s ih=>
  intro m out hs hm ho
  obtain ⟨m,rfl⟩:∃ e,m=e+1:=⟨m-1,by omega⟩
  rw [Z8C]
  show j2i _ _ _ _ _=_
  unfold j2i
  dsimp only
  have h2:(0:Int)<256 ^ s:=Int.pow_pos (by omega)
  rw [show ((s+1:Nat):Int)-1=(s:Int) by omega,decide_eq_true (show (s:Int)>=0 by omega),cond_true,jdk s (by omega),decide_eq_false (by omega),Bool.not_false,cond_true,Z9l (by unfold LIM;omega),cond_true,jeo n s hn (by omega),j03 (by omega)]
  have:=ih m (out++[((n / 256 ^ s % 256:Nat):Int)]) (by omega) (by omega) (by rw [List.length_append,List.length_singleton];omega)
  refine this.trans ?_
  rw [List.append_assoc]
  rfl
theorem jf1 (n:Nat) (hn:n<=1099511627775) (k:List Int->Res):∀ (s m:Nat) (out:List Int),s<=6->s<m->out.length+s<=1000000->Z14 (j7n (n:Int)) m (out,(s:Int)-1) k=k (out++be n s):=by
 intro s
 induction s with
 | zero=>
  intro m out hs hm ho
  obtain ⟨m,rfl⟩:∃ e,m=e+1:=⟨m-1,by omega⟩
  rw [Z8C]
  show j3S _ _ _ _ _=_
  unfold j3S
  dsimp only
  rw [decide_eq_false (by omega),cond_false]
  simp [be]
 | succ s ih=>
  intro m out hs hm ho
  obtain ⟨m,rfl⟩:∃ e,m=e+1:=⟨m-1,by omega⟩
  rw [Z8C]
  show j3S _ _ _ _ _=_
  unfold j3S
  dsimp only
  rw [show ((s+1:Nat):Int)-1=(s:Int) by omega,decide_eq_true (show (s:Int)>=0 by omega),cond_true,jen n s hn (by omega),j03 (n:=8 * (s:Int)) (by omega),decide_eq_false (show ¬ 8 * (s:Int)<0 by omega),Bool.not_false,cond_true,Z9l (by unfold LIM;omega),cond_true,j03 (by omega)]
  have:=ih m (out++[((n / 256 ^ s % 256:Nat):Int)]) (by omega) (by omega) (by rw [List.length_append,List.length_singleton];omega)
  refine this.trans ?_
  rw [List.append_assoc]
  rfl
theorem jbj (b:List Int) (hb:b.length<=100000) (n s:Nat) (hn:n<=1099511627775) (hs:1<=s/\s<=6) (k:List Int->Res):j0d b (n:Int) (s:Int) k=k (b++be n s):=by
 unfold j0d j8K
 rw [j03 (by omega)]
 exact jf1 n hn k s Z12 b hs.2 (Z1U (by omega)) (by omega)
theorem j1E (b:List Int) (hb:b.length<=100000) (n:Int) (hn:0<=n/\n<256) (k:List Int->Res):j0d b n 1 k=k (b++[n]):=by
 obtain ⟨m,rfl⟩:∃ m:Nat,n=(m:Int):=⟨n.toNat,by omega⟩
 have:=jbj b hb m 1 (by omega) (by omega) k
 refine Eq.trans this ?_
 have e:be m 1=[(m:Int)]:=by
  simp only [be]
  rw [show (256:Nat) ^ 0=1 by decide]
  congr 1
  omega
 rw [e]
theorem jdI (b:List Int) (hb:b.length<=100) (n:Nat) (hn:n<=1099511627775) (k:List Int->Bool->Res):j0e b (n:Int) 6 k=k (b++be n 6) true:=by
 unfold j0e j3p
 have hp:=jdk 6 (by omega) (λ(r:Int)=>(λ(t:Bool)=>bif t then k [] false else bif lim (0+b.length) then j3o (n:Int) Z12 b (Z8o (6-1)) λ(out:List Int)=>k out true else none) (decide ((n:Int)>=r)))
 rw [decide_eq_false (show ¬ (6:Int)<1 by omega),cond_false,decide_eq_false (show ¬ (6:Int)>6 by omega),cond_false,decide_eq_false (show ¬ (n:Int)<0 by omega),cond_false]
 refine Eq.trans hp ?_
 rw [show ((256:Int) ^ 6)=281474976710656 by decide,decide_eq_false (show ¬ (n:Int)>=281474976710656 by omega)]
 dsimp only
 rw [cond_false,Z9l (by unfold LIM;omega),cond_true]
 exact jdl n hn (λout=>k out true) 6 Z12 b (by omega) (Z1U (by omega)) (by omega)
theorem jct (v:V) (k:List Int->Bool->Res):j1L v k=bif j0h v then k (wB v) true else k [] false:=by
 unfold j1L
 rw [j9c]
 cases hv:j0h v
 ·rfl
 ·rw [Bool.not_true,cond_false,cond_true]
  rcases j0B hv with rfl | ⟨n,hn,rfl⟩ | ⟨n,hn,rfl⟩ | ⟨s,hs,rfl⟩
  ·rfl
  ·dsimp only
   rw [show ((1:Int)==1)=true from rfl,cond_true]
   show k [wu8 1,wu8 n] true=k [1,n] true
   rw [j0x (by omega),j0x (by omega)]
  ·dsimp only
   rw [show ((2:Int)==1)=false from rfl,cond_false,show ((2:Int)==2)=true from rfl,cond_true]
   show j2k n 0 (decide (n<0)) _=k (2::(bif decide (n<0) then 1 else 0)::be n.natAbs 6) true
   unfold j2k
   by_cases h0:n<0
   ·rw [decide_eq_true h0,cond_true,cond_true,j03 (by omega),show (0:Int)-n=((n.natAbs:Nat):Int) by omega]
    dsimp only
    rw [jdI _ (by simp) _ (by omega)]
    rw [j0x (n:=2) (by omega)]
    rfl
   ·rw [decide_eq_false h0,cond_false,cond_false]
    dsimp only
    have e:n=((n.natAbs:Nat):Int):=by omega
    rw [show j0e [wu8 2,0] n 6=j0e [wu8 2,0] ((n.natAbs:Nat):Int) 6 by rw [<-e],jdI _ (by simp) _ (by omega),j0x (n:=2) (by omega)]
    rfl
  ·dsimp only
   rw [show ((3:Int)==1)=false from rfl,cond_false,show ((3:Int)==2)=false from rfl,cond_false,show ((3:Int)==3)=true from rfl,cond_true]
   show _=k (3::nI s.size::Z1e s) true
   simp only [Z8u]
   have:=j0s s
   rw [Z9l (by show s.size<=LIM;unfold LIM;omega),cond_true,Z9l (by unfold LIM;omega),cond_true]
   show k ([wu8 3,wu8 (nI s.size)]++Z1e s) true=_
   rw [j0x (by omega),j0x (by unfold nI;omega)]
   rfl
theorem jck (b:List Int) (hb:b.length<=90000) (v:V) (hv:j0h v=true) (k:List Int->Res):j5t b v k=k (b++wB v):=by
 unfold j5t
 rcases j0B hv with rfl | ⟨n,hn,rfl⟩ | ⟨n,hn,rfl⟩ | ⟨s,hs,rfl⟩
 ·rw [j1E b (by omega) _ (by simp)]
  rfl
 ·rw [j1E b (by omega) _ (by simp)]
  show j0d (b++[1]) n 1 _=k (b++[1,n])
  rw [j1E _ (by rw [List.length_append,List.length_singleton];omega) _ (by omega),List.append_assoc]
  rfl
 ·rw [j1E b (by omega) _ (by simp)]
  show j1w (b++[2]) (decide (n<0)) (λr2=>j0d r2 (mxI n (Z8o (0-n))) 6 _)=k (b++(2::(bif decide (n<0) then 1 else 0)::be n.natAbs 6))
  have hmx:mxI n (Z8o (0-n))=((n.natAbs:Nat):Int):=by
   unfold mxI
   rw [j03 (by omega)]
   split<;>omega
  rw [hmx]
  have hf:∀ (is:Bool) (K:List Int->Res),j1w (b++[2]) is K=K (b++[2]++[bif is then 1 else 0]):=λis K=>by
   unfold j1w
   cases is
   ·rw [cond_false,Z9l (by rw [List.length_append,List.length_singleton];unfold LIM;omega),cond_true];rfl
   ·rw [cond_true,Z9l (by rw [List.length_append,List.length_singleton];unfold LIM;omega),cond_true];rfl
  rw [hf]
  have:=jbj (b++[2]++[bif decide (n<0) then 1 else 0]) (by simp;omega) n.natAbs 6 (by omega) (by omega) k
  refine Eq.trans this ?_
  rw [List.append_assoc,List.append_assoc]
  rfl
 ·rw [j1E b (by omega) _ (by simp)]
  show j0J (b++[3]) s _=k (b++(3::nI s.size::Z1e s))
  unfold j0J
  have:=j0s s
  rw [j1E _ (by rw [List.length_append,List.length_singleton];omega) _ (by unfold nI;omega),Z9l (by simp;unfold LIM;omega),cond_true,List.append_assoc,List.append_assoc]
  rfl
def j9Z (l:List V):Bool:=decide (l.length<=8)&&l.all j0h
theorem jcx:(l:List V)->(i:Nat)->(out:List Int)->Z1y (λ_ out v=>bif j0h v then (.ok (out++wB v):Except Unit (List Int)) else .error ()) i l out=bif l.all j0h then .ok (out++l.flatMap wB) else .error ()
 | [],_,out=>by simp [Z1y]
 | v::l,i,out=>by
  simp only [Z1y,List.all_cons]
  cases j0h v
  ·rfl
  ·simp only [cond_true,Bool.true_and]
   rw [jcx l (i+1),List.flatMap_cons,List.append_assoc]
theorem jcq (l:List V) (h:l.length<=9) (k:List Int->Bool->Res):j2D l k=bif j9Z l then k (j0W l) true else k [] false:=by
 unfold j2D j9Z
 by_cases h8:l.length<=8
 ·rw [decide_eq_false (show ¬ nI l.length>8 by unfold nI;omega),cond_false,decide_eq_true h8,Bool.true_and,j0x (by unfold nI;omega)]
  unfold j5B
  have:=Z3t l (λi out=>(out,i)) (λ_ out v=>bif j0h v then (.ok (out++wB v):Except Unit (List Int)) else .error ()) (λi out=>out.length<=1+32 * i) (step:=j4u l (nI l.length)) ((λ(b:List Int)=>k b true),(λ(_:Unit)=>k [] false)) (λb=>k b true) (λ_=>k [] false) [nI l.length] (by unfold LIM;omega) (by simp) (λi out out' hi ho hf=>by
   cases hv:j0h l[i]
   ·rw [hv] at hf;cases hf
   ·rw [hv] at hf;cases hf
    have:=j93 hv
    rw [List.length_append];omega) (λi out rec hi ho=>by
   show j1A _ _ _ _ _ _ _=_
   unfold j1A
   dsimp only
   rw [Z9q hi,cond_true,j07 hi,cond_true,Z9a _ _ _ hi,jct,j03 (n:=(i:Int)+1) (by omega)]
   cases hv:j0h l[i]
   ·rfl
   ·have:=j93 hv
    rw [cond_true,cond_true,Bool.not_true,cond_false,Z9l (by unfold LIM;omega),cond_true]) (λout rec _=>by
   show j1A _ _ _ _ _ _ _=_
   unfold j1A
   dsimp only
   rw [Z9p,cond_false])
  refine this.trans ?_
  rw [jcx]
  cases l.all j0h<;>rfl
 ·rw [decide_eq_true (show nI l.length>8 by unfold nI;omega),cond_true,decide_eq_false h8,Bool.false_and,cond_false]
end Go.PI.G
