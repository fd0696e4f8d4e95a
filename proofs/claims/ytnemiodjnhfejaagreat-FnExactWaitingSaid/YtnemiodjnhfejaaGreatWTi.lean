/-
  Program's code interpreted over typed values; printed texts; plain laws. No conditions.
-/
import Derived.Test.YtnemiodjnhfejaaGreatPc
import Derived.Test.YtnemiodjnhfejaaGreatWTd
import Derived.Test.YtnemiodjnhfejaaGreatWTh
set_option linter.unusedVariables false
set_option maxRecDepth 100000
namespace Go.PI.G
open Go Go.PI Go.Proofs
open Go.Code (pl pr)
end Go.PI.G
namespace Go.PI.G
noncomputable section
open Go Go.PI Go.Proofs
open Go.Code (pl pr)
def j31 (g:Int) (f:List Int) (h:Int) (d:List Int) (b:Int) (rec:(List Int)->Int->Res) (i:(List Int)->Res):Res:=bif decide (b<h) then bif inb b (List.length f) then bif decide ((nth 0 f b)>g) then bif lim ((List.length d)+1) then rec (d++[nth 0 f b]) (Z9K (b+1)) else none else rec d (Z9K (b+1)) else none else i d
def j5p (b:Int) (f:List Int) (g:Int):((List Int)×Int)->((List Int)×Int->Res)->(((List Int)->Res))->Res:=λv rec q=>j31 b f g v.1 v.2 (λd h=>rec (d,h)) q
def jaI (b:Int) (f:List Int) (g:Int) (n:Nat) (d:List Int) (h:Int) (i:(List Int)->Res):Res:=Z1f (j5p b f g) n (d,h) (i)
def j9Q:Z1d Unit:=NdL 25 25 [.I 1,.R 5 y21 .O,.R 10 y21 .O,.I 11,.I 12] [] (λb f=>(b.2.1,b.2.2.2.2.1)) (λb v=>(b.1,v.1,b.2.2.1,b.2.2.2.1,v.2,())) (λf v=>()) (λb f=>j5p b.1 b.2.2.1 b.2.2.2.1) λb f g=>((λd=>g (.exit 0) [(5,v1 y21 d .O)] []))
theorem jjB:CN 0 58 Tryz.f42 j9Q:=lK (Za6 jfe Zas) [] oN ([],[]) [(0,[5],[])] ([],[]) λ_ _ _ _ _=>by kernel_rfl
def j6j (l:List qP) (b:Int) (f:(List Int)->Res):Res:=j6d l λr=>jaI b r (nI (List.length r)) Z1c [] 0 λd=>f d
def jbx:Sig Unit:=sg [.borrow y20 false,.borrow tI false] [false] [(y20,none),(tI,none)] [] λb f k=>j6j b.1 b.2.1 (λd=>k [w1 y21 d .O] [] [])
theorem jl4:SO 42 jbx:=fK (np:=0) (Za6 jfe Zas) [j9Q] (oI 58 0 @jjB oN) false Tryz.func42 λ_ _ _ _=>by delta j6j jfB j9Q jaI;refine gz j6d λ_ b=>gz j5p λ_ d=> ?_;rewrite [<-b,<-d];kernel_rfl
def j2R (g:Int) (f:List Int) (h:Int) (d:List Int) (b:Int) (rec:(List Int)->Int->Res) (i:(List Int)->Res):Res:=bif decide (b<h) then bif inb b (List.length f) then bif decide ((nth 0 f b)>g) then bif lim ((List.length d)+1) then rec (d++[nth 0 f b]) (Z9K (b+1)) else none else rec d (Z9K (b+1)) else none else i d
def j5k (b:Int) (f:List Int) (g:Int):((List Int)×Int)->((List Int)×Int->Res)->(((List Int)->Res))->Res:=λv rec q=>j2R b f g v.1 v.2 (λd h=>rec (d,h)) q
def jaa (b:Int) (f:List Int) (g:Int) (n:Nat) (d:List Int) (h:Int) (i:(List Int)->Res):Res:=Z1f (j5k b f g) n (d,h) (i)
def j9J:Z1d Unit:=NdL 25 25 [.I 1,.R 5 y21 .O,.R 10 y21 .O,.I 11,.I 12] [] (λb f=>(b.2.1,b.2.2.2.2.1)) (λb v=>(b.1,v.1,b.2.2.1,b.2.2.2.1,v.2,())) (λf v=>()) (λb f=>j5k b.1 b.2.2.1 b.2.2.2.1) λb f g=>((λd=>g (.exit 0) [(5,v1 y21 d .O)] []))
theorem jjk:CN 0 58 Tryz.f43 j9J:=lK (Za6 jf4 Zas) [] oN ([],[]) [(0,[5],[])] ([],[]) λ_ _ _ _ _=>by kernel_rfl
def j2h (l:List qP) (b:Int) (f:(List Int)->Res):Res:=j5F l λr=>jaa b r (nI (List.length r)) Z1c [] 0 λd=>f d
def j8m:Sig Unit:=sg [.borrow y20 false,.borrow tI false] [false] [(y20,none),(tI,none)] [] λb f k=>j2h b.1 b.2.1 (λd=>k [w1 y21 d .O] [] [])
theorem jkX:SO 43 j8m:=fK (np:=0) (Za6 jf4 Zas) [j9J] (oI 58 0 @jjk oN) false Tryz.func43 λ_ _ _ _=>by delta j2h jfz j9J jaa;refine gz j5F λ_ b=>gz j5k λ_ d=> ?_;rewrite [<-b,<-d];kernel_rfl
end
end Go.PI.G
namespace Go.PI.G
noncomputable section
open Go Go.PI Go.Proofs
open Go.Code (pl pr)
def j3F (a:List Int) (b:List Int) (i:Int) (rec:Int->Res) (d:Unit->Res) (f:Unit->Res):Res:=bif decide (i<(nI (List.length a))) then bif inb i (List.length a) then bif inb i (List.length b) then bif ((nth 0 a i) != (nth 0 b i)) then f () else rec (Z9K (i+1)) else none else none else d ()
def jdh (a:List Int) (b:List Int):Int->(Int->Res)->((Unit->Res)×(Unit->Res))->Res:=λv rec q=>j3F a b v (λi=>rec (i)) q.1 q.2
def jft (a:List Int) (b:List Int) (n:Nat) (i:Int) (d:Unit->Res) (f:Unit->Res):Res:=Z1f (jdh a b) n (i) (d,f)
def jer:Z1d Unit:=NdL 26 26 [.R 0 y21 .S,.R 1 y21 .S,.I 5] [] (λb d=>(b.2.2.1)) (λb v=>(b.1,b.2.1,v,())) (λd v=>()) (λb d=>jdh b.1 b.2.1) λb d f=>((λ_=>f (.exit 0) [] []),(λ_=>f .ret [(4,vB false)] []))
theorem jkl:CN 0 58 Tryz.f44 jer:=lK Zas [] oN ([],[]) [(0,[],[])] ([4],[]) λ_ _ _ _ _=>by kernel_rfl
def j3g (a:List Int) (b:List Int) (d:Bool->Res):Res:=bif ((nI (List.length a)) != (nI (List.length b))) then d false else jft a b Z1c 0 (λ_=>d true) (λ_=>d false)
def j9c:Sig Unit:=sg [.look y21 false,.look y21 false] [false] [(y21,none),(y21,none)] [] λb f k=>j3g b.1 b.2.1 (λd=>k [wB d] [] [])
theorem jmi:SO 44 j9c:=fK (np:=0) Zas [jer] (oI 58 0 @jkl oN) false Tryz.func44 λ_ _ _ _=>by kernel_rfl
def j2l (a:List Int) (b:Int) (i:Int) (rec:(List Int)->Int->Int->Res) (d:(List Int)->Int->Res):Res:=bif decide (i<(nI (List.length a))) then bif inb i (List.length a) then rec (upd a i b) (Z9K (b+1)) (Z9K (i+1)) else none else d a b
def j7P:((List Int)×Int×Int)->((List Int)×Int×Int->Res)->(((List Int)->Int->Res))->Res:=λv rec q=>j2l v.1 v.2.1 v.2.2 (λa b i=>rec (a,b,i)) q
def jdm (n:Nat) (a:List Int) (d:Int) (i:Int) (b:(List Int)->Int->Res):Res:=Z1f (j7P) n (a,d,i) (b)
def jcz:Z1d Unit:=NdL 19 19 [.R 0 y21 .O,.I 1,.I 5] [] (λb f=>(b.1,b.2.1,b.2.2.1)) (λb v=>(v.1,v.2.1,v.2.2,())) (λf v=>()) (λb f=>j7P) λb f h=>((λg d=>h (.exit 0) [(0,v1 y21 g .O),(1,vI d)] []))
theorem jik:CN 1 26 Tryz.f46 jcz:=lK Zas [] oN ([],[]) [(0,[0,1],[])] ([],[]) λ_ _ _ _ _=>by kernel_rfl
def j6X (a:List Int) (g:Int) (f:Int->(List Int)->Res):Res:=jdm Z1c a g 0 λd b=>f b d
def jat:Sig Unit:=sg [.inout y21 false,.borrow tI false] [false] [(y21,some [.O]),(tI,none)] [] λb g k=>j6X b.1 b.2.1 (λf d=>k [wI f] [w1 y21 d .O] [])
theorem jjT:SO 46 jat:=fK (np:=1) Zas [jcz] (oI 26 0 @jik oN) false Tryz.func46 λ_ _ _ _=>by kernel_rfl
def j2k (a:List Int) (b:Int) (i:Int) (rec:Int->Int->Res) (d:Int->Res) (f:Unit->Res):Res:=bif decide (i<(nI (List.length a))) then bif inb i (List.length a) then bif ((nth 0 a i) != b) then f () else rec (Z9K (b+1)) (Z9K (i+1)) else none else d b
def j7O (a:List Int):(Int×Int)->(Int×Int->Res)->((Int->Res)×(Unit->Res))->Res:=λv rec q=>j2k a v.1 v.2 (λb i=>rec (b,i)) q.1 q.2
def jdk (a:List Int) (n:Nat) (f:Int) (i:Int) (b:Int->Res) (d:Unit->Res):Res:=Z1f (j7O a) n (f,i) (b,d)
def jcx:Z1d Unit:=NdL 21 21 [.R 0 y21 .S,.I 1,.I 5] [] (λb f=>(b.2.1,b.2.2.1)) (λb v=>(b.1,v.1,v.2,())) (λf v=>()) (λb f=>j7O b.1) λb f g=>((λd=>g (.exit 0) [(1,vI d)] []),(λ_=>g .ret [(4,vI (-1))] []))
theorem jif:CN 0 26 Tryz.f47 jcx:=lK Zas [] oN ([],[]) [(0,[1],[])] ([4],[]) λ_ _ _ _ _=>by kernel_rfl
def j4y (a:List Int) (f:Int) (d:Int->Res):Res:=jdk a Z1c f 0 (λb=>d b) (λ_=>d (-1))
def jas:Sig Unit:=sg [.look y21 false,.look tI false] [false] [(y21,none),(tI,none)] [] λb f k=>j4y b.1 b.2.1 (λd=>k [wI d] [] [])
theorem jjR:SO 47 jas:=fK (np:=0) Zas [jcx] (oI 26 0 @jif oN) false Tryz.func47 λ_ _ _ _=>by kernel_rfl
end
end Go.PI.G
namespace Go.PI.G
noncomputable section
open Go Go.PI Go.Proofs
open Go.Code (pl pr)
def jaj (a:Int×Int×qB) (left:Int) (b:Int->Res):Res:=bif decide ((Z9K (left-(nI (ByteArray.size a.2.2))))<0) then b (-1) else b (Z9K (left-(nI (ByteArray.size a.2.2))))
def jnY:Sig Unit:=sg [.look y2 true,.look tI false] [false] [(y2,none),(tI,none)] [] λb f k=>jaj b.1 b.2.1 (λd=>k [wI d] [] [])
theorem jd0:SO 105 jnY:=fK (np:=0) Zas [] oN false Tryz.func105 λ_ _ _ _=>by kernel_rfl
def jal (a:Int×Int×qB) (b:qV->Res):Res:=b (a.1,a.2.1,a.2.2)
def jo1:Sig Unit:=sg [.look y2 true] [true] [(y2,none)] [] λd f k=>jal d.1 (λb=>k [⟨y2,true,b,[]⟩] [] [])
theorem jd1:SO 106 jo1:=fK (np:=0) Zas [] oN false Tryz.func106 λ_ _ _ _=>by kernel_rfl
def jah (a:Int×Int×qB) (b:Int×Int×qB) (d:Bool->Res):Res:=bif (a.1 != b.1) then d false else bif (a.2.1 != b.2.1) then d false else bif sNe a.2.2 b.2.2 then d false else d true
def jnV:Sig Unit:=sg [.look y2 true,.look y2 true] [false] [(y2,none),(y2,none)] [] λb f k=>jah b.1 b.2.1 (λd=>k [wB d] [] [])
theorem jcZ:SO 107 jnV:=fK (np:=0) Zas [] oN false Tryz.func107 λ_ _ _ _=>by kernel_rfl
end
end Go.PI.G
namespace Go.PI.G
noncomputable section
open Go Go.PI Go.Proofs
open Go.Code (pl pr)
def jcI (a:qB×Int×Bool×Bool×Int×Int×qB) (left:Int) (b:Int->Res):Res:=bif decide ((Z9K (left-(nI (ByteArray.size a.1))))<0) then b (-1) else jaj a.2.2.2.2 (Z9K (left-(nI (ByteArray.size a.1)))) λr=>bif decide (r<0) then b (-1) else b r
def jnW:Sig Unit:=sg [.look y7 true,.look tI false] [false] [(y7,none),(tI,none)] [] λb f k=>jcI b.1 b.2.1 (λd=>k [wI d] [] [])
theorem jhg:SO 285 jnW:=fK (np:=0) (Za6 jd0 Zas) [] oN false Tryz.func285 λ_ _ _ _=>by kernel_rfl
def jcK (a:qB×Int×Bool×Bool×Int×Int×qB) (b:qC->Res):Res:=jal a.2.2.2.2 λr=>b (a.1,a.2.1,a.2.2.1,a.2.2.2.1,r)
def jnZ:Sig Unit:=sg [.look y7 true] [true] [(y7,none)] [] λd f k=>jcK d.1 (λb=>k [⟨y7,true,b,[]⟩] [] [])
theorem jhi:SO 292 jnZ:=fK (np:=0) (Za6 jd1 Zas) [] oN false Tryz.func292 λ_ _ _ _=>by kernel_rfl
def jcG (a:qB×Int×Bool×Bool×Int×Int×qB) (b:qB×Int×Bool×Bool×Int×Int×qB) (d:Bool->Res):Res:=bif sNe a.1 b.1 then d false else bif (a.2.1 != b.2.1) then d false else bif !(a.2.2.1==b.2.2.1) then d false else bif !(a.2.2.2.1==b.2.2.2.1) then d false else jah a.2.2.2.2 b.2.2.2.2 λr=>bif !r then d false else d true
def jnT:Sig Unit:=sg [.look y7 true,.look y7 true] [false] [(y7,none),(y7,none)] [] λb f k=>jcG b.1 b.2.1 (λd=>k [wB d] [] [])
theorem jhd:SO 302 jnT:=fK (np:=0) (Za6 jcZ Zas) [] oN false Tryz.func302 λ_ _ _ _=>by kernel_rfl
end
end Go.PI.G
namespace Go.PI.G
noncomputable section
open Go Go.PI Go.Proofs
open Go.Code (pl pr)
def j2m (d:Int) (b:qB) (rec:Int->qB->Res) (f:qB->Res):Res:=bif decide (d>0) then bif lim ((ByteArray.size (Z3B [wu8 (Z9K (48+(Int.tmod d 10)))]))+(ByteArray.size b)) then rec (Z9K (Int.tdiv d 10)) ((Z3B [wu8 (Z9K (48+(Int.tmod d 10)))])++b) else none else f b
def j4V:(Int×qB)->(Int×qB->Res)->((qB->Res))->Res:=λv rec q=>j2m v.1 v.2 (λd b=>rec (d,b)) q
def jdo (n:Nat) (f:Int) (b:qB) (d:qB->Res):Res:=Z1f (j4V) n (f,b) (d)
def jcB:Z1d Unit:=NdL 20 20 [.I 0,.S 3] [] (λd f=>(d.1,d.2.1)) (λd v=>(v.1,v.2,())) (λf v=>()) (λd f=>j4V) λd f g=>((λb=>g (.exit 0) [(3,vS b)] []))
theorem jit:CN 0 60 Tryz.f110 jcB:=lK Zas [] oN ([],[]) [(0,[3],[])] ([],[]) λ_ _ _ _ _=>by kernel_rfl
def j0p (f:Int) (d:qB->Res):Res:=bif decide (f<=0) then d jrU else jdo Z1c f eS λb=>bif lim (1+(ByteArray.size b)) then d (z_m++b) else none
def j7t:Sig Unit:=sg [.look tI false] [false] [(tI,none)] [] λd f k=>j0p d.1 (λb=>k [wS b] [] [])
theorem j0C:SO 110 j7t:=fK (np:=0) Zas [jcB] (oI 60 0 @jit oN) false Tryz.func110 λ_ _ _ _=>by kernel_rfl
end
end Go.PI.G
namespace Go.PI.G
noncomputable section
open Go Go.PI Go.Proofs
open Go.Code (pl pr)
def j3S (a:List qC) (left:Int) (i:Int) (rec:Int->Int->Res) (b:Int->Res) (d:Unit->Res):Res:=bif decide (i<(nI (List.length a))) then bif inb i (List.length a) then jcI (nth (eS,0,false,false,0,0,eS) a i) left λr=>bif decide (r<0) then d () else rec r (Z9K (i+1)) else none else b left
def jdq (a:List qC):(Int×Int)->(Int×Int->Res)->((Int->Res)×(Unit->Res))->Res:=λv rec q=>j3S a v.1 v.2 (λleft i=>rec (left,i)) q.1 q.2
def jbl (a:List qC) (n:Nat) (left:Int) (i:Int) (b:Int->Res) (d:Unit->Res):Res:=Z1f (jdq a) n (left,i) (b,d)
def jeu:Z1d Unit:=NdL 27 27 [.R 0 y8 .S,.I 1,.I 5] [] (λd f=>(d.2.1,d.2.2.1)) (λd v=>(d.1,v.1,v.2,())) (λf v=>()) (λd f=>jdq d.1) λd f g=>((λb=>g (.exit 0) [(1,vI b)] []),(λ_=>g .ret [(4,vI (-1))] []))
theorem jko:CN 0 122 Tryz.f241 jeu:=lK (Za6 jhg Zas) [] oN ([],[]) [(0,[1],[])] ([4],[]) λ_ _ _ _ _=>by kernel_rfl
def j8V (a:List qC) (left:Int) (d:Int->Res):Res:=bif decide ((Z9K (left-(nI (List.length a))))<0) then d (-1) else jbl a Z1c (Z9K (left-(nI (List.length a)))) 0 (λb=>d b) (λ_=>d (-1))
def jgM:Sig Unit:=sg [.look y8 false,.look tI false] [false] [(y8,none),(tI,none)] [] λb f k=>j8V b.1 b.2.1 (λd=>k [wI d] [] [])
theorem jml:SO 241 jgM:=fK (np:=0) (Za6 jhg Zas) [jeu] (oI 122 0 @jko oN) false Tryz.func241 λ_ _ _ _=>by kernel_rfl
def j3V (a:List qC) (b:List qC) (i:Int) (rec:qE->Int->Res) (d:qE->Res):Res:=bif decide (i<(nI (List.length a))) then bif inb i (List.length a) then jcK (nth (eS,0,false,false,0,0,eS) a i) λr=>bif inb i (List.length b) then rec (upd b i r) (Z9K (i+1)) else none else none else d b
def j9p (a:List qC):(qE×Int)->(qE×Int->Res)->((qE->Res))->Res:=λv rec q=>j3V a v.1 v.2 (λb i=>rec (b,i)) q
def jlf (a:List qC) (n:Nat) (b:List qC) (i:Int) (d:qE->Res):Res:=Z1f (j9p a) n (b,i) (d)
def jex:Z1d Unit:=NdL 23 23 [.R 0 y8 .S,.R 3 y8 .O,.I 4] [] (λb f=>(b.2.1,b.2.2.1)) (λb v=>(b.1,v.1,v.2,())) (λf v=>()) (λb f=>j9p b.1) λb f g=>((λd=>g (.exit 0) [(3,v1 y8 d .O)] []))
theorem jkr:CN 0 58 Tryz.f249 jex:=lK (Za6 jhi Zas) [] oN ([],[]) [(0,[3],[])] ([],[]) λ_ _ _ _ _=>by kernel_rfl
def j8Y (a:List qC) (d:qE->Res):Res:=bif Z9I (nI (List.length a)) (nI (List.length a)) then jlf a Z1c (Z9h (nI (List.length a)) (eS,0,false,false,0,0,eS)) 0 λb=>d b else none
def jgO:Sig Unit:=sg [.borrow y8 false] [false] [(y8,none)] [] λd f k=>j8Y d.1 (λb=>k [w1 y8 b .O] [] [])
theorem jmo:SO 249 jgO:=fK (np:=0) (Za6 jhi Zas) [jex] (oI 58 0 @jkr oN) false Tryz.func249 λ_ _ _ _=>by kernel_rfl
def j3E (a:List qC) (b:List qC) (i:Int) (rec:Int->Res) (d:Unit->Res) (f:Unit->Res):Res:=bif decide (i<(nI (List.length a))) then bif inb i (List.length a) then bif inb i (List.length b) then jcG (nth (eS,0,false,false,0,0,eS) a i) (nth (eS,0,false,false,0,0,eS) b i) λr=>bif !r then f () else rec (Z9K (i+1)) else none else none else d ()
def jdg (a:List qC) (b:List qC):Int->(Int->Res)->((Unit->Res)×(Unit->Res))->Res:=λv rec q=>j3E a b v (λi=>rec (i)) q.1 q.2
def jfs (a:List qC) (b:List qC) (n:Nat) (i:Int) (d:Unit->Res) (f:Unit->Res):Res:=Z1f (jdg a b) n (i) (d,f)
def jeq:Z1d Unit:=NdL 27 27 [.R 0 y8 .S,.R 1 y8 .S,.I 5] [] (λb d=>(b.2.2.1)) (λb v=>(b.1,b.2.1,v,())) (λd v=>()) (λb d=>jdg b.1 b.2.1) λb d f=>((λ_=>f (.exit 0) [] []),(λ_=>f .ret [(4,vB false)] []))
theorem jkk:CN 0 58 Tryz.f258 jeq:=lK (Za6 jhd Zas) [] oN ([],[]) [(0,[],[])] ([4],[]) λ_ _ _ _ _=>by kernel_rfl
def j8S (a:List qC) (b:List qC) (d:Bool->Res):Res:=bif ((nI (List.length a)) != (nI (List.length b))) then d false else jfs a b Z1c 0 (λ_=>d true) (λ_=>d false)
def jgK:Sig Unit:=sg [.look y8 false,.look y8 false] [false] [(y8,none),(y8,none)] [] λb f k=>j8S b.1 b.2.1 (λd=>k [wB d] [] [])
theorem jmh:SO 258 jgK:=fK (np:=0) (Za6 jhd Zas) [jeq] (oI 58 0 @jkk oN) false Tryz.func258 λ_ _ _ _=>by kernel_rfl
def j3I (a:List qC) (d:Int) (i:Int) (b:qE->Res):Res:=bif inb i (List.length a) then b (upd a i ((nth (eS,0,false,false,0,0,eS) a i).1,(nth (eS,0,false,false,0,0,eS) a i).2.1,((Int.tmod d 3)==0),(nth (eS,0,false,false,0,0,eS) a i).2.2.2)) else none
def j1O:Z1d Unit:=Nd 71 71 [.R 0 y8 .O,.I 1,.I 5] [] λb g f=>j3I b.1 b.2.1 b.2.2.1 (λd=>f .normal [(0,v1 y8 d .O),(1,vI b.2.1),(5,vI b.2.2.1)] [])
theorem jih:CN 1 13470 Tryz.f111 j1O:=nK (Za6 j0C Zas) [] oN ([0,1,5],[]) [] ([],[]) λ_ _ _=>by kernel_rfl
def j3J (a:List qC) (d:Int) (i:Int) (b:qE->Res):Res:=bif inb i (List.length a) then b (upd a i ((nth (eS,0,false,false,0,0,eS) a i).1,(nth (eS,0,false,false,0,0,eS) a i).2.1,(nth (eS,0,false,false,0,0,eS) a i).2.2.1,(nth (eS,0,false,false,0,0,eS) a i).2.2.2.1,d,(nth (eS,0,false,false,0,0,eS) a i).2.2.2.2.2)) else none
def j38:Z1d Unit:=Nd 71 71 [.R 0 y8 .O,.I 1,.I 5] [] λb g f=>j3J b.1 b.2.1 b.2.2.1 (λd=>f .normal [(0,v1 y8 d .O),(1,vI b.2.1),(5,vI b.2.2.1)] [])
theorem jii:CN 1 215550 Tryz.f111 j38:=nK (Za6 j0C Zas) [j1O] oN ([0,1,5],[]) [] ([],[]) λ_ _ _=>by kernel_rfl
def j3K (a:List qC) (d:Int) (i:Int) (b:qE->Res):Res:=j0p d λr=>bif inb i (List.length a) then b (upd a i ((nth (eS,0,false,false,0,0,eS) a i).1,(nth (eS,0,false,false,0,0,eS) a i).2.1,(nth (eS,0,false,false,0,0,eS) a i).2.2.1,(nth (eS,0,false,false,0,0,eS) a i).2.2.2.1,(nth (eS,0,false,false,0,0,eS) a i).2.2.2.2.1,(nth (eS,0,false,false,0,0,eS) a i).2.2.2.2.2.1,r)) else none
def j5z:Z1d Unit:=Nd 71 71 [.R 0 y8 .O,.I 1,.I 5] [] λb g f=>j3K b.1 b.2.1 b.2.2.1 (λd=>f .normal [(0,v1 y8 d .O),(1,vI b.2.1),(5,vI b.2.2.1)] [])
theorem jij:CN 1 3448830 Tryz.f111 j5z:=nK (Za6 j0C Zas) [j1O,j38] oN ([0,1,5],[]) [] ([],[]) λ_ _ _=>by kernel_rfl
def j1l (a:List qC) (b:Int) (i:Int) (rec:qE->Int->Int->Res) (h:qE->Int->Res):Res:=bif decide (i<(nI (List.length a))) then j0p b λr=>bif inb i (List.length a) then bif inb i (List.length (upd a i (r,(nth (eS,0,false,false,0,0,eS) a i).2))) then j3I (upd (upd a i (r,(nth (eS,0,false,false,0,0,eS) a i).2)) i ((nth (eS,0,false,false,0,0,eS) (upd a i (r,(nth (eS,0,false,false,0,0,eS) a i).2)) i).1,Z9K (b+1),(nth (eS,0,false,false,0,0,eS) (upd a i (r,(nth (eS,0,false,false,0,0,eS) a i).2)) i).2.2)) (Z9K ((Z9K (b+1))+1)) i λf=>bif inb i (List.length f) then j3J (upd f i ((nth (eS,0,false,false,0,0,eS) f i).1,(nth (eS,0,false,false,0,0,eS) f i).2.1,(nth (eS,0,false,false,0,0,eS) f i).2.2.1,((Int.tmod (Z9K ((Z9K ((Z9K (b+1))+1))+1)) 3)==0),(nth (eS,0,false,false,0,0,eS) f i).2.2.2.2)) (Z9K ((Z9K ((Z9K ((Z9K (b+1))+1))+1))+1)) i λd=>bif inb i (List.length d) then j3K (upd d i ((nth (eS,0,false,false,0,0,eS) d i).1,(nth (eS,0,false,false,0,0,eS) d i).2.1,(nth (eS,0,false,false,0,0,eS) d i).2.2.1,(nth (eS,0,false,false,0,0,eS) d i).2.2.2.1,(nth (eS,0,false,false,0,0,eS) d i).2.2.2.2.1,Z9K ((Z9K ((Z9K ((Z9K ((Z9K (b+1))+1))+1))+1))+1),(nth (eS,0,false,false,0,0,eS) d i).2.2.2.2.2.2)) (Z9K ((Z9K ((Z9K ((Z9K ((Z9K ((Z9K (b+1))+1))+1))+1))+1))+1)) i λg=>rec g (Z9K ((Z9K ((Z9K ((Z9K ((Z9K ((Z9K ((Z9K (b+1))+1))+1))+1))+1))+1))+1)) (Z9K (i+1)) else none else none else none else none else h a b
def j4T:(qE×Int×Int)->(qE×Int×Int->Res)->((qE->Int->Res))->Res:=λv rec q=>j1l v.1 v.2.1 v.2.2 (λa b i=>rec (a,b,i)) q
def jdl (n:Nat) (a:List qC) (d:Int) (i:Int) (b:qE->Int->Res):Res:=Z1f (j4T) n (a,d,i) (b)
def jcy:Z1d Unit:=NdL 71 71 [.R 0 y8 .O,.I 1,.I 5] [] (λb f=>(b.1,b.2.1,b.2.2.1)) (λb v=>(v.1,v.2.1,v.2.2,())) (λf v=>()) (λb f=>j4T) λb f h=>((λg d=>h (.exit 0) [(0,v1 y8 g .O),(1,vI d)] []))
theorem jig:CN 1 26 Tryz.f111 jcy:=lK (Za6 j0C Zas) [j1O,j38,j5z] (oI 414 0 @jih (oI 6654 1 @jii (oI 106494 2 @jij oN))) ([],[]) [(0,[0,1],[])] ([],[]) λ_ _ _ _ _=>by delta j4T j1l j7t j1O j38 j5z;refine gz j0p λ_ b=>gz j3I λ_ d=>gz j3J λ_ f=>gz j3K λ_ g=> ?_;rewrite [<-b,<-d,<-f,<-g];kernel_rfl
def j97 (a:List qC) (g:Int) (f:Int->qE->Res):Res:=jdl Z1c a g 0 λd b=>f b d
def jeh:Sig Unit:=sg [.inout y8 false,.borrow tI false] [false] [(y8,some [.O]),(tI,none)] [] λb g k=>j97 b.1 b.2.1 (λf d=>k [wI f] [w1 y8 d .O] [])
theorem jjS:SO 111 jeh:=fK (np:=1) (Za6 j0C Zas) [j1O,j38,j5z,jcy] (oI 26 3 @jig oN) false Tryz.func111 λ_ _ _ _=>by kernel_rfl
end
end Go.PI.G
namespace Go.PI.G
noncomputable section
open Go Go.PI Go.Proofs
open Go.Code (pl pr)
def j1X (a:qL) (left:Int) (i:Int) (rec:Int->Int->Res) (b:Int->Res) (d:Unit->Res):Res:=bif decide (i<(nI (List.length a))) then bif inb i (List.length a) then bif decide ((Z9K (left-(nI (ByteArray.size (nth eS a i)))))<0) then d () else rec (Z9K (left-(nI (ByteArray.size (nth eS a i))))) (Z9K (i+1)) else none else b left
def jb6 (a:qL):(Int×Int)->(Int×Int->Res)->((Int->Res)×(Unit->Res))->Res:=λv rec q=>j1X a v.1 v.2 (λleft i=>rec (left,i)) q.1 q.2
def j8C (a:qL) (n:Nat) (left:Int) (i:Int) (b:Int->Res) (d:Unit->Res):Res:=Z1f (jb6 a) n (left,i) (b,d)
def jc0:Z1d Unit:=NdL 28 28 [.R 0 y0 .S,.I 1,.I 5] [] (λd f=>(d.2.1,d.2.2.1)) (λd v=>(d.1,v.1,v.2,())) (λf v=>()) (λd f=>jb6 d.1) λd f g=>((λb=>g (.exit 0) [(1,vI b)] []),(λ_=>g .ret [(4,vI (-1))] []))
theorem jhC:CN 0 122 Tryz.f82 jc0:=lK Zas [] oN ([],[]) [(0,[1],[])] ([4],[]) λ_ _ _ _ _=>by kernel_rfl
def j5Q (a:qL) (left:Int) (d:Int->Res):Res:=bif decide ((Z9K (left-(nI (List.length a))))<0) then d (-1) else j8C a Z1c (Z9K (left-(nI (List.length a)))) 0 (λb=>d b) (λ_=>d (-1))
def jdz:Sig Unit:=sg [.look y0 false,.look tI false] [false] [(y0,none),(tI,none)] [] λb f k=>j5Q b.1 b.2.1 (λd=>k [wI d] [] [])
theorem jiX:SO 82 jdz:=fK (np:=0) Zas [jc0] (oI 122 0 @jhC oN) false Tryz.func82 λ_ _ _ _=>by kernel_rfl
def j1Y (a:qL) (b:qL) (i:Int) (rec:qL->Int->Res) (d:qL->Res):Res:=bif decide (i<(nI (List.length a))) then bif inb i (List.length a) then bif inb i (List.length b) then rec (upd b i (nth eS a i)) (Z9K (i+1)) else none else none else d b
def j7h (a:qL):(qL×Int)->(qL×Int->Res)->((qL->Res))->Res:=λv rec q=>j1Y a v.1 v.2 (λb i=>rec (b,i)) q
def jib (a:qL) (n:Nat) (b:qL) (i:Int) (d:qL->Res):Res:=Z1f (j7h a) n (b,i) (d)
def jc1:Z1d Unit:=NdL 22 22 [.R 0 y0 .S,.R 3 y0 .O,.I 4] [] (λb f=>(b.2.1,b.2.2.1)) (λb v=>(b.1,v.1,v.2,())) (λf v=>()) (λb f=>j7h b.1) λb f g=>((λd=>g (.exit 0) [(3,v1 y0 d .O)] []))
theorem jhD:CN 0 58 Tryz.f88 jc1:=lK Zas [] oN ([],[]) [(0,[3],[])] ([],[]) λ_ _ _ _ _=>by kernel_rfl
def j5R (a:qL) (d:qL->Res):Res:=bif Z9I (nI (List.length a)) (nI (List.length a)) then jib a Z1c (Z9h (nI (List.length a)) eS) 0 λb=>d b else none
def jdA:Sig Unit:=sg [.borrow y0 false] [false] [(y0,none)] [] λd f k=>j5R d.1 (λb=>k [w1 y0 b .O] [] [])
theorem jiY:SO 88 jdA:=fK (np:=0) Zas [jc1] (oI 58 0 @jhD oN) false Tryz.func88 λ_ _ _ _=>by kernel_rfl
def j1W (a:qL) (b:qL) (i:Int) (rec:Int->Res) (d:Unit->Res) (f:Unit->Res):Res:=bif decide (i<(nI (List.length a))) then bif inb i (List.length a) then bif inb i (List.length b) then bif sNe (nth eS a i) (nth eS b i) then f () else rec (Z9K (i+1)) else none else none else d ()
def jb4 (a:qL) (b:qL):Int->(Int->Res)->((Unit->Res)×(Unit->Res))->Res:=λv rec q=>j1W a b v (λi=>rec (i)) q.1 q.2
def jcv (a:qL) (b:qL) (n:Nat) (i:Int) (d:Unit->Res) (f:Unit->Res):Res:=Z1f (jb4 a b) n (i) (d,f)
def jbZ:Z1d Unit:=NdL 26 26 [.R 0 y0 .S,.R 1 y0 .S,.I 5] [] (λb d=>(b.2.2.1)) (λb v=>(b.1,b.2.1,v,())) (λd v=>()) (λb d=>jb4 b.1 b.2.1) λb d f=>((λ_=>f (.exit 0) [] []),(λ_=>f .ret [(4,vB false)] []))
theorem jhB:CN 0 58 Tryz.f97 jbZ:=lK Zas [] oN ([],[]) [(0,[],[])] ([4],[]) λ_ _ _ _ _=>by kernel_rfl
def j5O (a:qL) (b:qL) (d:Bool->Res):Res:=bif ((nI (List.length a)) != (nI (List.length b))) then d false else jcv a b Z1c 0 (λ_=>d true) (λ_=>d false)
def jdy:Sig Unit:=sg [.look y0 false,.look y0 false] [false] [(y0,none),(y0,none)] [] λb f k=>j5O b.1 b.2.1 (λd=>k [wB d] [] [])
theorem jiW:SO 97 jdy:=fK (np:=0) Zas [jbZ] (oI 58 0 @jhB oN) false Tryz.func97 λ_ _ _ _=>by kernel_rfl
def j1n (a:qL) (b:Int) (i:Int) (rec:qL->Int->Int->Res) (d:qL->Int->Res):Res:=bif decide (i<(nI (List.length a))) then j0p b λr=>bif inb i (List.length a) then rec (upd a i r) (Z9K (b+1)) (Z9K (i+1)) else none else d a b
def j5P:(qL×Int×Int)->(qL×Int×Int->Res)->((qL->Int->Res))->Res:=λv rec q=>j1n v.1 v.2.1 v.2.2 (λa b i=>rec (a,b,i)) q
def jb5 (n:Nat) (a:qL) (d:Int) (i:Int) (b:qL->Int->Res):Res:=Z1f (j5P) n (a,d,i) (b)
def jaU:Z1d Unit:=NdL 20 20 [.R 0 y0 .O,.I 1,.I 5] [] (λb f=>(b.1,b.2.1,b.2.2.1)) (λb v=>(v.1,v.2.1,v.2.2,())) (λf v=>()) (λb f=>j5P) λb f h=>((λg d=>h (.exit 0) [(0,v1 y0 g .O),(1,vI d)] []))
theorem jg8:CN 1 26 Tryz.f98 jaU:=lK (Za6 j0C Zas) [] oN ([],[]) [(0,[0,1],[])] ([],[]) λ_ _ _ _ _=>by kernel_rfl
def j6z (a:qL) (g:Int) (f:Int->qL->Res):Res:=jb5 Z1c a g 0 λd b=>f b d
def jbV:Sig Unit:=sg [.inout y0 false,.borrow tI false] [false] [(y0,some [.O]),(tI,none)] [] λb g k=>j6z b.1 b.2.1 (λf d=>k [wI f] [w1 y0 d .O] [])
theorem jhf:SO 98 jbV:=fK (np:=1) (Za6 j0C Zas) [jaU] (oI 26 0 @jg8 oN) false Tryz.func98 λ_ _ _ _=>by kernel_rfl
end
end Go.PI.G
namespace Go.PI.G
noncomputable section
open Go Go.PI Go.Proofs
open Go.Code (pl pr)
def j8k (a:qG) (left:Int) (b:Int->Res):Res:=bif decide ((Z9K (left-(nI (ByteArray.size a.2.1))))<0) then b (-1) else j8V a.2.2.1 (Z9K (left-(nI (ByteArray.size a.2.1)))) λr=>bif decide (r<0) then b (-1) else j5Q a.2.2.2.1 r λd=>bif decide (d<0) then b (-1) else bif decide ((Z9K (d-(nI (ByteArray.size a.2.2.2.2.1))))<0) then b (-1) else bif decide ((Z9K ((Z9K (d-(nI (ByteArray.size a.2.2.2.2.1))))-(nI (ByteArray.size a.2.2.2.2.2))))<0) then b (-1) else b (Z9K ((Z9K (d-(nI (ByteArray.size a.2.2.2.2.1))))-(nI (ByteArray.size a.2.2.2.2.2))))
def jhS:Sig Unit:=sg [.look y13 true,.look tI false] [false] [(y13,none),(tI,none)] [] λb f k=>j8k b.1 b.2.1 (λd=>k [wI d] [] [])
theorem jnc:SO 185 jhS:=fK (np:=0) (Za6 jiX (Za6 jml Zas)) [] oN false Tryz.func185 λ_ _ _ _=>by delta j8k jgM jdz;refine gz j8V λ_ b=>gz j5Q λ_ d=> ?_;rewrite [<-b,<-d];kernel_rfl
def j8l (a:qG) (b:qG->Res):Res:=j8Y a.2.2.1 λr=>j5R a.2.2.2.1 λd=>b (a.1,a.2.1,r,d,a.2.2.2.2.1,a.2.2.2.2.2)
def jhU:Sig Unit:=sg [.borrow y13 true] [true] [(y13,none)] [] λd f k=>j8l d.1 (λb=>k [⟨y13,true,b,[.O,.O]⟩] [] [])
theorem jne:SO 194 jhU:=fK (np:=0) (Za6 jiY (Za6 jmo Zas)) [] oN false Tryz.func194 λ_ _ _ _=>by delta j8l jgO jdA;refine gz j8Y λ_ b=>gz j5R λ_ d=> ?_;rewrite [<-b,<-d];kernel_rfl
def j8j (a:qG) (b:qG) (d:Bool->Res):Res:=bif (a.1 != b.1) then d false else bif sNe a.2.1 b.2.1 then d false else j8S a.2.2.1 b.2.2.1 λr=>bif !r then d false else j5O a.2.2.2.1 b.2.2.2.1 λf=>bif !f then d false else bif sNe a.2.2.2.2.1 b.2.2.2.2.1 then d false else bif sNe a.2.2.2.2.2 b.2.2.2.2.2 then d false else d true
def jhQ:Sig Unit:=sg [.look y13 true,.look y13 true] [false] [(y13,none),(y13,none)] [] λb f k=>j8j b.1 b.2.1 (λd=>k [wB d] [] [])
theorem jna:SO 200 jhQ:=fK (np:=0) (Za6 jiW (Za6 jmh Zas)) [] oN false Tryz.func200 λ_ _ _ _=>by delta j8j jgK jdy;refine gz j8S λ_ b=>gz j5O λ_ d=> ?_;rewrite [<-b,<-d];kernel_rfl
end
end Go.PI.G
namespace Go.PI.G
noncomputable section
open Go Go.PI Go.Proofs
open Go.Code (pl pr)
def j3U (a:List qV) (left:Int) (i:Int) (rec:Int->Int->Res) (b:Int->Res) (d:Unit->Res):Res:=bif decide (i<(nI (List.length a))) then bif inb i (List.length a) then jaj (nth (0,0,eS) a i) left λr=>bif decide (r<0) then d () else rec r (Z9K (i+1)) else none else b left
def jds (a:List qV):(Int×Int)->(Int×Int->Res)->((Int->Res)×(Unit->Res))->Res:=λv rec q=>j3U a v.1 v.2 (λleft i=>rec (left,i)) q.1 q.2
def jbn (a:List qV) (n:Nat) (left:Int) (i:Int) (b:Int->Res) (d:Unit->Res):Res:=Z1f (jds a) n (left,i) (b,d)
def jew:Z1d Unit:=NdL 27 27 [.R 0 y3 .S,.I 1,.I 5] [] (λd f=>(d.2.1,d.2.2.1)) (λd v=>(d.1,v.1,v.2,())) (λf v=>()) (λd f=>jds d.1) λd f g=>((λb=>g (.exit 0) [(1,vI b)] []),(λ_=>g .ret [(4,vI (-1))] []))
theorem jkq:CN 0 122 Tryz.f37 jew:=lK (Za6 jd0 Zas) [] oN ([],[]) [(0,[1],[])] ([4],[]) λ_ _ _ _ _=>by kernel_rfl
def j79 (a:List qV) (left:Int) (d:Int->Res):Res:=bif decide ((Z9K (left-(nI (List.length a))))<0) then d (-1) else jbn a Z1c (Z9K (left-(nI (List.length a)))) 0 (λb=>d b) (λ_=>d (-1))
def jgN:Sig Unit:=sg [.look y3 false,.look tI false] [false] [(y3,none),(tI,none)] [] λb f k=>j79 b.1 b.2.1 (λd=>k [wI d] [] [])
theorem jgA:SO 37 jgN:=fK (np:=0) (Za6 jd0 Zas) [jew] (oI 122 0 @jkq oN) false Tryz.func37 λ_ _ _ _=>by kernel_rfl
def j3X (a:List qV) (b:List qV) (i:Int) (rec:qW->Int->Res) (d:qW->Res):Res:=bif decide (i<(nI (List.length a))) then bif inb i (List.length a) then jal (nth (0,0,eS) a i) λr=>bif inb i (List.length b) then rec (upd b i r) (Z9K (i+1)) else none else none else d b
def j9r (a:List qV):(qW×Int)->(qW×Int->Res)->((qW->Res))->Res:=λv rec q=>j3X a v.1 v.2 (λb i=>rec (b,i)) q
def jlh (a:List qV) (n:Nat) (b:List qV) (i:Int) (d:qW->Res):Res:=Z1f (j9r a) n (b,i) (d)
def jez:Z1d Unit:=NdL 23 23 [.R 0 y3 .S,.R 3 y3 .O,.I 4] [] (λb f=>(b.2.1,b.2.2.1)) (λb v=>(b.1,v.1,v.2,())) (λf v=>()) (λb f=>j9r b.1) λb f g=>((λd=>g (.exit 0) [(3,v1 y3 d .O)] []))
theorem jkt:CN 0 58 Tryz.f39 jez:=lK (Za6 jd1 Zas) [] oN ([],[]) [(0,[3],[])] ([],[]) λ_ _ _ _ _=>by kernel_rfl
def j7a (a:List qV) (d:qW->Res):Res:=bif Z9I (nI (List.length a)) (nI (List.length a)) then jlh a Z1c (Z9h (nI (List.length a)) (0,0,eS)) 0 λb=>d b else none
def jgP:Sig Unit:=sg [.borrow y3 false] [false] [(y3,none)] [] λd f k=>j7a d.1 (λb=>k [w1 y3 b .O] [] [])
theorem jgB:SO 39 jgP:=fK (np:=0) (Za6 jd1 Zas) [jez] (oI 58 0 @jkt oN) false Tryz.func39 λ_ _ _ _=>by kernel_rfl
def j3H (a:List qV) (b:List qV) (i:Int) (rec:Int->Res) (d:Unit->Res) (f:Unit->Res):Res:=bif decide (i<(nI (List.length a))) then bif inb i (List.length a) then bif inb i (List.length b) then jah (nth (0,0,eS) a i) (nth (0,0,eS) b i) λr=>bif !r then f () else rec (Z9K (i+1)) else none else none else d ()
def jdj (a:List qV) (b:List qV):Int->(Int->Res)->((Unit->Res)×(Unit->Res))->Res:=λv rec q=>j3H a b v (λi=>rec (i)) q.1 q.2
def jfv (a:List qV) (b:List qV) (n:Nat) (i:Int) (d:Unit->Res) (f:Unit->Res):Res:=Z1f (jdj a b) n (i) (d,f)
def jet:Z1d Unit:=NdL 27 27 [.R 0 y3 .S,.R 1 y3 .S,.I 5] [] (λb d=>(b.2.2.1)) (λb v=>(b.1,b.2.1,v,())) (λd v=>()) (λb d=>jdj b.1 b.2.1) λb d f=>((λ_=>f (.exit 0) [] []),(λ_=>f .ret [(4,vB false)] []))
theorem jkn:CN 0 58 Tryz.f41 jet:=lK (Za6 jcZ Zas) [] oN ([],[]) [(0,[],[])] ([4],[]) λ_ _ _ _ _=>by kernel_rfl
def j78 (a:List qV) (b:List qV) (d:Bool->Res):Res:=bif ((nI (List.length a)) != (nI (List.length b))) then d false else jfv a b Z1c 0 (λ_=>d true) (λ_=>d false)
def jgL:Sig Unit:=sg [.look y3 false,.look y3 false] [false] [(y3,none),(y3,none)] [] λb f k=>j78 b.1 b.2.1 (λd=>k [wB d] [] [])
theorem jgz:SO 41 jgL:=fK (np:=0) (Za6 jcZ Zas) [jet] (oI 58 0 @jkn oN) false Tryz.func41 λ_ _ _ _=>by kernel_rfl
def j2n (a:List qV) (b:Int) (i:Int) (rec:qW->Int->Int->Res) (d:qW->Int->Res):Res:=bif decide (i<(nI (List.length a))) then bif inb i (List.length a) then bif inb i (List.length (upd a i (b,(nth (0,0,eS) a i).2))) then j0p (Z9K ((Z9K (b+1))+1)) λr=>bif inb i (List.length (upd (upd a i (b,(nth (0,0,eS) a i).2)) i ((nth (0,0,eS) (upd a i (b,(nth (0,0,eS) a i).2)) i).1,Z9K (b+1),(nth (0,0,eS) (upd a i (b,(nth (0,0,eS) a i).2)) i).2.2))) then rec (upd (upd (upd a i (b,(nth (0,0,eS) a i).2)) i ((nth (0,0,eS) (upd a i (b,(nth (0,0,eS) a i).2)) i).1,Z9K (b+1),(nth (0,0,eS) (upd a i (b,(nth (0,0,eS) a i).2)) i).2.2)) i ((nth (0,0,eS) (upd (upd a i (b,(nth (0,0,eS) a i).2)) i ((nth (0,0,eS) (upd a i (b,(nth (0,0,eS) a i).2)) i).1,Z9K (b+1),(nth (0,0,eS) (upd a i (b,(nth (0,0,eS) a i).2)) i).2.2)) i).1,(nth (0,0,eS) (upd (upd a i (b,(nth (0,0,eS) a i).2)) i ((nth (0,0,eS) (upd a i (b,(nth (0,0,eS) a i).2)) i).1,Z9K (b+1),(nth (0,0,eS) (upd a i (b,(nth (0,0,eS) a i).2)) i).2.2)) i).2.1,r)) (Z9K ((Z9K ((Z9K (b+1))+1))+1)) (Z9K (i+1)) else none else none else none else d a b
def j7Q:(qW×Int×Int)->(qW×Int×Int->Res)->((qW->Int->Res))->Res:=λv rec q=>j2n v.1 v.2.1 v.2.2 (λa b i=>rec (a,b,i)) q
def jdp (n:Nat) (a:List qV) (d:Int) (i:Int) (b:qW->Int->Res):Res:=Z1f (j7Q) n (a,d,i) (b)
def jcC:Z1d Unit:=NdL 35 35 [.R 0 y3 .O,.I 1,.I 5] [] (λb f=>(b.1,b.2.1,b.2.2.1)) (λb v=>(v.1,v.2.1,v.2.2,())) (λf v=>()) (λb f=>j7Q) λb f h=>((λg d=>h (.exit 0) [(0,v1 y3 g .O),(1,vI d)] []))
theorem jiu:CN 1 26 Tryz.f51 jcC:=lK (Za6 j0C Zas) [] oN ([],[]) [(0,[0,1],[])] ([],[]) λ_ _ _ _ _=>by kernel_rfl
def j4z (a:List qV) (g:Int) (f:Int->qW->Res):Res:=jdp Z1c a g 0 λd b=>f b d
def jav:Sig Unit:=sg [.inout y3 false,.borrow tI false] [false] [(y3,some [.O]),(tI,none)] [] λb g k=>j4z b.1 b.2.1 (λf d=>k [wI f] [w1 y3 d .O] [])
theorem jjV:SO 51 jav:=fK (np:=1) (Za6 j0C Zas) [jcC] (oI 26 0 @jiu oN) false Tryz.func51 λ_ _ _ _=>by kernel_rfl
end
end Go.PI.G
namespace Go.PI.G
noncomputable section
open Go Go.PI Go.Proofs
open Go.Code (pl pr)
def jai (a:List qV) (left:Int) (b:Int->Res):Res:=j79 a left λr=>bif decide (r<0) then b (-1) else b r
def jhT:Sig Unit:=sg [.look y3 true,.look tI false] [false] [(y3,none),(tI,none)] [] λb f k=>jai b.1 b.2.1 (λd=>k [wI d] [] [])
theorem jnd:SO 184 jhT:=fK (np:=0) (Za6 jgA Zas) [] oN false Tryz.func184 λ_ _ _ _=>by kernel_rfl
def jak (a:List qV) (b:qW->Res):Res:=j7a a λr=>b r
def jhV:Sig Unit:=sg [.borrow y3 true] [true] [(y3,none)] [] λd f k=>jak d.1 (λb=>k [⟨y3,true,b,[.O]⟩] [] [])
theorem jnf:SO 193 jhV:=fK (np:=0) (Za6 jgB Zas) [] oN false Tryz.func193 λ_ _ _ _=>by kernel_rfl
def jag (a:List qV) (b:List qV) (d:Bool->Res):Res:=j78 a b λr=>bif !r then d false else d true
def jhR:Sig Unit:=sg [.look y3 true,.look y3 true] [false] [(y3,none),(y3,none)] [] λb f k=>jag b.1 b.2.1 (λd=>k [wB d] [] [])
theorem jnb:SO 50 jhR:=fK (np:=0) (Za6 jgz Zas) [] oN false Tryz.func50 λ_ _ _ _=>by kernel_rfl
end
end Go.PI.G
namespace Go.PI.G
noncomputable section
open Go Go.PI Go.Proofs
open Go.Code (pl pr)
def j8X (a:qS) (left:Int) (b:Int->Res):Res:=bif decide ((Z9K (left-(nI (ByteArray.size a.2.1))))<0) then b (-1) else j79 a.2.2.1 (Z9K (left-(nI (ByteArray.size a.2.1)))) λr=>bif decide (r<0) then b (-1) else jai a.2.2.2.1 r λd=>bif decide (d<0) then b (-1) else j8k a.2.2.2.2 d λf=>bif decide (f<0) then b (-1) else b f
def jmU:Sig Unit:=sg [.look y17 true,.look tI false] [false] [(y17,none),(tI,none)] [] λb f k=>j8X b.1 b.2.1 (λd=>k [wI d] [] [])
theorem jmn:SO 132 jmU:=fK (np:=0) (Za6 jgA (Za6 jnd (Za6 jnc Zas))) [] oN false Tryz.func132 λ_ _ _ _=>by delta j8X jgN jhT jhS;refine gz j79 λ_ b=>gz jai λ_ d=>gz j8k λ_ f=> ?_;rewrite [<-b,<-d,<-f];kernel_rfl
def j8Z (a:qS) (b:qS->Res):Res:=j7a a.2.2.1 λr=>jak a.2.2.2.1 λd=>j8l a.2.2.2.2 λf=>b (a.1,a.2.1,r,d,f)
def jmV:Sig Unit:=sg [.borrow y17 true] [true] [(y17,none)] [] λd f k=>j8Z d.1 (λb=>k [⟨y17,true,b,[.O,.O,.O,.O]⟩] [] [])
theorem jmq:SO 137 jmV:=fK (np:=0) (Za6 jgB (Za6 jnf (Za6 jne Zas))) [] oN false Tryz.func137 λ_ _ _ _=>by delta j8Z jgP jhV jhU;refine gz j7a λ_ b=>gz jak λ_ d=>gz j8l λ_ f=> ?_;rewrite [<-b,<-d,<-f];kernel_rfl
def j8U (a:qS) (b:qS) (d:Bool->Res):Res:=bif (a.1 != b.1) then d false else bif sNe a.2.1 b.2.1 then d false else j78 a.2.2.1 b.2.2.1 λr=>bif !r then d false else jag a.2.2.2.1 b.2.2.2.1 λf=>bif !f then d false else j8j a.2.2.2.2 b.2.2.2.2 λg=>bif !g then d false else d true
def jmT:Sig Unit:=sg [.look y17 true,.look y17 true] [false] [(y17,none),(y17,none)] [] λb f k=>j8U b.1 b.2.1 (λd=>k [wB d] [] [])
theorem jmk:SO 140 jmT:=fK (np:=0) (Za6 jgz (Za6 jnb (Za6 jna Zas))) [] oN false Tryz.func140 λ_ _ _ _=>by delta j8U jgL jhR jhQ;refine gz j78 λ_ b=>gz jag λ_ d=>gz j8j λ_ f=> ?_;rewrite [<-b,<-d,<-f];kernel_rfl
end
end Go.PI.G
namespace Go.PI.G
noncomputable section
open Go Go.PI Go.Proofs
open Go.Code (pl pr)
def jcJ (a:Int×Int×qS) (left:Int) (b:Int->Res):Res:=j8X a.2.2 left λr=>bif decide (r<0) then b (-1) else b r
def jnX:Sig Unit:=sg [.look y19 true,.look tI false] [false] [(y19,none),(tI,none)] [] λb f k=>jcJ b.1 b.2.1 (λd=>k [wI d] [] [])
theorem jhh:SO 75 jnX:=fK (np:=0) (Za6 jmn Zas) [] oN false Tryz.func75 λ_ _ _ _=>by kernel_rfl
def jcL (a:Int×Int×qS) (b:qP->Res):Res:=j8Z a.2.2 λr=>b (a.1,a.2.1,r)
def jo0:Sig Unit:=sg [.borrow y19 true] [true] [(y19,none)] [] λd f k=>jcL d.1 (λb=>k [⟨y19,true,b,[.O,.O,.O,.O]⟩] [] [])
theorem jhj:SO 77 jo0:=fK (np:=0) (Za6 jmq Zas) [] oN false Tryz.func77 λ_ _ _ _=>by kernel_rfl
def jcH (a:Int×Int×qS) (b:Int×Int×qS) (d:Bool->Res):Res:=bif (a.1 != b.1) then d false else bif (a.2.1 != b.2.1) then d false else j8U a.2.2 b.2.2 λr=>bif !r then d false else d true
def jnU:Sig Unit:=sg [.look y19 true,.look y19 true] [false] [(y19,none),(y19,none)] [] λb f k=>jcH b.1 b.2.1 (λd=>k [wB d] [] [])
theorem jhe:SO 79 jnU:=fK (np:=0) (Za6 jmk Zas) [] oN false Tryz.func79 λ_ _ _ _=>by kernel_rfl
end
end Go.PI.G
namespace Go.PI.G
noncomputable section
open Go Go.PI Go.Proofs
open Go.Code (pl pr)
def j3T (a:List qP) (left:Int) (i:Int) (rec:Int->Int->Res) (b:Int->Res) (d:Unit->Res):Res:=bif decide (i<(nI (List.length a))) then bif inb i (List.length a) then jcJ (nth (0,0,0,eS,[],[],0,eS,[],[],eS,eS) a i) left λr=>bif decide (r<0) then d () else rec r (Z9K (i+1)) else none else b left
def jdr (a:List qP):(Int×Int)->(Int×Int->Res)->((Int->Res)×(Unit->Res))->Res:=λv rec q=>j3T a v.1 v.2 (λleft i=>rec (left,i)) q.1 q.2
def jbm (a:List qP) (n:Nat) (left:Int) (i:Int) (b:Int->Res) (d:Unit->Res):Res:=Z1f (jdr a) n (left,i) (b,d)
def jev:Z1d Unit:=NdL 27 27 [.R 0 y20 .S,.I 1,.I 5] [] (λd f=>(d.2.1,d.2.2.1)) (λd v=>(d.1,v.1,v.2,())) (λf v=>()) (λd f=>jdr d.1) λd f g=>((λb=>g (.exit 0) [(1,vI b)] []),(λ_=>g .ret [(4,vI (-1))] []))
theorem jkp:CN 0 122 Tryz.f26 jev:=lK (Za6 jhh Zas) [] oN ([],[]) [(0,[1],[])] ([4],[]) λ_ _ _ _ _=>by kernel_rfl
def j8W (a:List qP) (left:Int) (d:Int->Res):Res:=bif decide ((Z9K (left-(nI (List.length a))))<0) then d (-1) else jbm a Z1c (Z9K (left-(nI (List.length a)))) 0 (λb=>d b) (λ_=>d (-1))
def jce:Sig Unit:=sg [.look y20 false,.look tI false] [false] [(y20,none),(tI,none)] [] λb f k=>j8W b.1 b.2.1 (λd=>k [wI d] [] [])
theorem jmm:SO 26 jce:=fK (np:=0) (Za6 jhh Zas) [jev] (oI 122 0 @jkp oN) false Tryz.func26 λ_ _ _ _=>by kernel_rfl
def j3W (a:List qP) (b:List qP) (i:Int) (rec:(List qP)->Int->Res) (d:(List qP)->Res):Res:=bif decide (i<(nI (List.length a))) then bif inb i (List.length a) then jcL (nth (0,0,0,eS,[],[],0,eS,[],[],eS,eS) a i) λr=>bif inb i (List.length b) then rec (upd b i r) (Z9K (i+1)) else none else none else d b
def j9q (a:List qP):((List qP)×Int)->((List qP)×Int->Res)->(((List qP)->Res))->Res:=λv rec q=>j3W a v.1 v.2 (λb i=>rec (b,i)) q
def jlg (a:List qP) (n:Nat) (b:List qP) (i:Int) (d:(List qP)->Res):Res:=Z1f (j9q a) n (b,i) (d)
def jey:Z1d Unit:=NdL 23 23 [.R 0 y20 .S,.R 3 y20 .O,.I 4] [] (λb f=>(b.2.1,b.2.2.1)) (λb v=>(b.1,v.1,v.2,())) (λf v=>()) (λb f=>j9q b.1) λb f g=>((λd=>g (.exit 0) [(3,v1 y20 d .O)] []))
theorem jks:CN 0 58 Tryz.f28 jey:=lK (Za6 jhj Zas) [] oN ([],[]) [(0,[3],[])] ([],[]) λ_ _ _ _ _=>by kernel_rfl
def j2a (a:List qP) (d:(List qP)->Res):Res:=bif Z9I (nI (List.length a)) (nI (List.length a)) then jlg a Z1c (Z9h (nI (List.length a)) (0,0,0,eS,[],[],0,eS,[],[],eS,eS)) 0 λb=>d b else none
def j9d:Sig Unit:=sg [.borrow y20 false] [false] [(y20,none)] [] λd f k=>j2a d.1 (λb=>k [w1 y20 b .O] [] [])
theorem jmp:SO 28 j9d:=fK (np:=0) (Za6 jhj Zas) [jey] (oI 58 0 @jks oN) false Tryz.func28 λ_ _ _ _=>by kernel_rfl
def j3G (a:List qP) (b:List qP) (i:Int) (rec:Int->Res) (d:Unit->Res) (f:Unit->Res):Res:=bif decide (i<(nI (List.length a))) then bif inb i (List.length a) then bif inb i (List.length b) then jcH (nth (0,0,0,eS,[],[],0,eS,[],[],eS,eS) a i) (nth (0,0,0,eS,[],[],0,eS,[],[],eS,eS) b i) λr=>bif !r then f () else rec (Z9K (i+1)) else none else none else d ()
def jdi (a:List qP) (b:List qP):Int->(Int->Res)->((Unit->Res)×(Unit->Res))->Res:=λv rec q=>j3G a b v (λi=>rec (i)) q.1 q.2
def jfu (a:List qP) (b:List qP) (n:Nat) (i:Int) (d:Unit->Res) (f:Unit->Res):Res:=Z1f (jdi a b) n (i) (d,f)
def jes:Z1d Unit:=NdL 27 27 [.R 0 y20 .S,.R 1 y20 .S,.I 5] [] (λb d=>(b.2.2.1)) (λb v=>(b.1,b.2.1,v,())) (λd v=>()) (λb d=>jdi b.1 b.2.1) λb d f=>((λ_=>f (.exit 0) [] []),(λ_=>f .ret [(4,vB false)] []))
theorem jkm:CN 0 58 Tryz.f30 jes:=lK (Za6 jhe Zas) [] oN ([],[]) [(0,[],[])] ([4],[]) λ_ _ _ _ _=>by kernel_rfl
def j8T (a:List qP) (b:List qP) (d:Bool->Res):Res:=bif ((nI (List.length a)) != (nI (List.length b))) then d false else jfu a b Z1c 0 (λ_=>d true) (λ_=>d false)
def jcd:Sig Unit:=sg [.look y20 false,.look y20 false] [false] [(y20,none),(y20,none)] [] λb f k=>j8T b.1 b.2.1 (λd=>k [wB d] [] [])
theorem jmj:SO 30 jcd:=fK (np:=0) (Za6 jhe Zas) [jes] (oI 58 0 @jkm oN) false Tryz.func30 λ_ _ _ _=>by kernel_rfl
theorem j0O:FS [(51,jav),(98,jbV),(110,j7t),(111,jeh)]:=(Za6 jjV (Za6 jhf (Za6 j0C (Za6 jjS Zas))))
def j3L (a:List qP) (d:Int) (i:Int) (b:(List qP)->Res):Res:=bif inb i (List.length a) then b (upd a i ((nth (0,0,0,eS,[],[],0,eS,[],[],eS,eS) a i).1,(nth (0,0,0,eS,[],[],0,eS,[],[],eS,eS) a i).2.1,d,(nth (0,0,0,eS,[],[],0,eS,[],[],eS,eS) a i).2.2.2)) else none
def j0k:Z1d Unit:=Nd 118 118 [.R 0 y20 .O,.I 1,.I 5] [] λb g f=>j3L b.1 b.2.1 b.2.2.1 (λd=>f .normal [(0,v1 y20 d .O),(1,vI b.2.1),(5,vI b.2.2.1)] [])
theorem jim:CN 1 13470 Tryz.f45 j0k:=nK j0O [] oN ([0,1,5],[]) [] ([],[]) λ_ _ _=>by kernel_rfl
def j3M (a:List qP) (f:Int) (i:Int) (d:(List qP)->Int->Res):Res:=bif inb i (List.length a) then j4z (nth (0,0,0,eS,[],[],0,eS,[],[],eS,eS) a i).2.2.2.2.1 f λr b=>d (upd a i ((nth (0,0,0,eS,[],[],0,eS,[],[],eS,eS) a i).1,(nth (0,0,0,eS,[],[],0,eS,[],[],eS,eS) a i).2.1,(nth (0,0,0,eS,[],[],0,eS,[],[],eS,eS) a i).2.2.1,(nth (0,0,0,eS,[],[],0,eS,[],[],eS,eS) a i).2.2.2.1,b,(nth (0,0,0,eS,[],[],0,eS,[],[],eS,eS) a i).2.2.2.2.2)) r else none
def j0A:Z1d Unit:=Nd 118 118 [.R 0 y20 .O,.I 1,.I 5] [] λb h g=>j3M b.1 b.2.1 b.2.2.1 (λf d=>g .normal [(0,v1 y20 f .O),(1,vI d),(5,vI b.2.2.1)] [])
theorem jin:CN 1 215550 Tryz.f45 j0A:=nK j0O [j0k] oN ([0,1,5],[]) [] ([],[]) λ_ _ _=>by kernel_rfl
def j3N (a:List qP) (d:Int) (i:Int) (b:(List qP)->Res):Res:=bif inb i (List.length a) then b (upd a i ((nth (0,0,0,eS,[],[],0,eS,[],[],eS,eS) a i).1,(nth (0,0,0,eS,[],[],0,eS,[],[],eS,eS) a i).2.1,(nth (0,0,0,eS,[],[],0,eS,[],[],eS,eS) a i).2.2.1,(nth (0,0,0,eS,[],[],0,eS,[],[],eS,eS) a i).2.2.2.1,(nth (0,0,0,eS,[],[],0,eS,[],[],eS,eS) a i).2.2.2.2.1,(nth (0,0,0,eS,[],[],0,eS,[],[],eS,eS) a i).2.2.2.2.2.1,d,(nth (0,0,0,eS,[],[],0,eS,[],[],eS,eS) a i).2.2.2.2.2.2.2)) else none
def j0M:Z1d Unit:=Nd 118 118 [.R 0 y20 .O,.I 1,.I 5] [] λb g f=>j3N b.1 b.2.1 b.2.2.1 (λd=>f .normal [(0,v1 y20 d .O),(1,vI b.2.1),(5,vI b.2.2.1)] [])
theorem jio:CN 1 862206 Tryz.f45 j0M:=nK j0O [j0k,j0A] oN ([0,1,5],[]) [] ([],[]) λ_ _ _=>by kernel_rfl
def j3O (a:List qP) (f:Int) (i:Int) (d:(List qP)->Int->Res):Res:=bif inb i (List.length a) then j97 (nth (0,0,0,eS,[],[],0,eS,[],[],eS,eS) a i).2.2.2.2.2.2.2.2.1 f λr b=>d (upd a i ((nth (0,0,0,eS,[],[],0,eS,[],[],eS,eS) a i).1,(nth (0,0,0,eS,[],[],0,eS,[],[],eS,eS) a i).2.1,(nth (0,0,0,eS,[],[],0,eS,[],[],eS,eS) a i).2.2.1,(nth (0,0,0,eS,[],[],0,eS,[],[],eS,eS) a i).2.2.2.1,(nth (0,0,0,eS,[],[],0,eS,[],[],eS,eS) a i).2.2.2.2.1,(nth (0,0,0,eS,[],[],0,eS,[],[],eS,eS) a i).2.2.2.2.2.1,(nth (0,0,0,eS,[],[],0,eS,[],[],eS,eS) a i).2.2.2.2.2.2.1,(nth (0,0,0,eS,[],[],0,eS,[],[],eS,eS) a i).2.2.2.2.2.2.2.1,b,(nth (0,0,0,eS,[],[],0,eS,[],[],eS,eS) a i).2.2.2.2.2.2.2.2.2)) r else none
def j13:Z1d Unit:=Nd 118 118 [.R 0 y20 .O,.I 1,.I 5] [] λb h g=>j3O b.1 b.2.1 b.2.2.1 (λf d=>g .normal [(0,v1 y20 f .O),(1,vI d),(5,vI b.2.2.1)] [])
theorem jip:CN 1 13795326 Tryz.f45 j13:=nK j0O [j0k,j0A,j0M] oN ([0,1,5],[]) [] ([],[]) λ_ _ _=>by kernel_rfl
def j3P (a:List qP) (f:Int) (i:Int) (d:(List qP)->Int->Res):Res:=bif inb i (List.length a) then j6z (nth (0,0,0,eS,[],[],0,eS,[],[],eS,eS) a i).2.2.2.2.2.2.2.2.2.1 f λr b=>d (upd a i ((nth (0,0,0,eS,[],[],0,eS,[],[],eS,eS) a i).1,(nth (0,0,0,eS,[],[],0,eS,[],[],eS,eS) a i).2.1,(nth (0,0,0,eS,[],[],0,eS,[],[],eS,eS) a i).2.2.1,(nth (0,0,0,eS,[],[],0,eS,[],[],eS,eS) a i).2.2.2.1,(nth (0,0,0,eS,[],[],0,eS,[],[],eS,eS) a i).2.2.2.2.1,(nth (0,0,0,eS,[],[],0,eS,[],[],eS,eS) a i).2.2.2.2.2.1,(nth (0,0,0,eS,[],[],0,eS,[],[],eS,eS) a i).2.2.2.2.2.2.1,(nth (0,0,0,eS,[],[],0,eS,[],[],eS,eS) a i).2.2.2.2.2.2.2.1,(nth (0,0,0,eS,[],[],0,eS,[],[],eS,eS) a i).2.2.2.2.2.2.2.2.1,b,(nth (0,0,0,eS,[],[],0,eS,[],[],eS,eS) a i).2.2.2.2.2.2.2.2.2.2)) r else none
def j1P:Z1d Unit:=Nd 118 118 [.R 0 y20 .O,.I 1,.I 5] [] λb h g=>j3P b.1 b.2.1 b.2.2.1 (λf d=>g .normal [(0,v1 y20 f .O),(1,vI d),(5,vI b.2.2.1)] [])
theorem jiq:CN 1 27590654 Tryz.f45 j1P:=nK j0O [j0k,j0A,j0M,j13] oN ([0,1,5],[]) [] ([],[]) λ_ _ _=>by kernel_rfl
def j3Q (a:List qP) (d:Int) (i:Int) (b:(List qP)->Res):Res:=j0p d λr=>bif inb i (List.length a) then b (upd a i ((nth (0,0,0,eS,[],[],0,eS,[],[],eS,eS) a i).1,(nth (0,0,0,eS,[],[],0,eS,[],[],eS,eS) a i).2.1,(nth (0,0,0,eS,[],[],0,eS,[],[],eS,eS) a i).2.2.1,(nth (0,0,0,eS,[],[],0,eS,[],[],eS,eS) a i).2.2.2.1,(nth (0,0,0,eS,[],[],0,eS,[],[],eS,eS) a i).2.2.2.2.1,(nth (0,0,0,eS,[],[],0,eS,[],[],eS,eS) a i).2.2.2.2.2.1,(nth (0,0,0,eS,[],[],0,eS,[],[],eS,eS) a i).2.2.2.2.2.2.1,(nth (0,0,0,eS,[],[],0,eS,[],[],eS,eS) a i).2.2.2.2.2.2.2.1,(nth (0,0,0,eS,[],[],0,eS,[],[],eS,eS) a i).2.2.2.2.2.2.2.2.1,(nth (0,0,0,eS,[],[],0,eS,[],[],eS,eS) a i).2.2.2.2.2.2.2.2.2.1,r,(nth (0,0,0,eS,[],[],0,eS,[],[],eS,eS) a i).2.2.2.2.2.2.2.2.2.2.2)) else none
def j39:Z1d Unit:=Nd 118 118 [.R 0 y20 .O,.I 1,.I 5] [] λb g f=>j3Q b.1 b.2.1 b.2.2.1 (λd=>f .normal [(0,v1 y20 d .O),(1,vI b.2.1),(5,vI b.2.2.1)] [])
theorem jir:CN 1 55181310 Tryz.f45 j39:=nK j0O [j0k,j0A,j0M,j13,j1P] oN ([0,1,5],[]) [] ([],[]) λ_ _ _=>by kernel_rfl
def j3R (a:List qP) (d:Int) (i:Int) (b:(List qP)->Res):Res:=j0p d λr=>bif inb i (List.length a) then b (upd a i ((nth (0,0,0,eS,[],[],0,eS,[],[],eS,eS) a i).1,(nth (0,0,0,eS,[],[],0,eS,[],[],eS,eS) a i).2.1,(nth (0,0,0,eS,[],[],0,eS,[],[],eS,eS) a i).2.2.1,(nth (0,0,0,eS,[],[],0,eS,[],[],eS,eS) a i).2.2.2.1,(nth (0,0,0,eS,[],[],0,eS,[],[],eS,eS) a i).2.2.2.2.1,(nth (0,0,0,eS,[],[],0,eS,[],[],eS,eS) a i).2.2.2.2.2.1,(nth (0,0,0,eS,[],[],0,eS,[],[],eS,eS) a i).2.2.2.2.2.2.1,(nth (0,0,0,eS,[],[],0,eS,[],[],eS,eS) a i).2.2.2.2.2.2.2.1,(nth (0,0,0,eS,[],[],0,eS,[],[],eS,eS) a i).2.2.2.2.2.2.2.2.1,(nth (0,0,0,eS,[],[],0,eS,[],[],eS,eS) a i).2.2.2.2.2.2.2.2.2.1,(nth (0,0,0,eS,[],[],0,eS,[],[],eS,eS) a i).2.2.2.2.2.2.2.2.2.2.1,r)) else none
def j5A:Z1d Unit:=Nd 118 118 [.R 0 y20 .O,.I 1,.I 5] [] λb g f=>j3R b.1 b.2.1 b.2.2.1 (λd=>f .normal [(0,v1 y20 d .O),(1,vI b.2.1),(5,vI b.2.2.1)] [])
theorem jis:CN 1 220725246 Tryz.f45 j5A:=nK j0O [j0k,j0A,j0M,j13,j1P,j39] oN ([0,1,5],[]) [] ([],[]) λ_ _ _=>by kernel_rfl
def j1m (a:List qP) (f:Int) (i:Int) (rec:(List qP)->Int->Int->Res) (y:(List qP)->Int->Res):Res:=bif decide (i<(nI (List.length a))) then bif inb i (List.length a) then bif inb i (List.length (upd a i (f,(nth (0,0,0,eS,[],[],0,eS,[],[],eS,eS) a i).2))) then j3L (upd (upd a i (f,(nth (0,0,0,eS,[],[],0,eS,[],[],eS,eS) a i).2)) i ((nth (0,0,0,eS,[],[],0,eS,[],[],eS,eS) (upd a i (f,(nth (0,0,0,eS,[],[],0,eS,[],[],eS,eS) a i).2)) i).1,Z9K (f+1),(nth (0,0,0,eS,[],[],0,eS,[],[],eS,eS) (upd a i (f,(nth (0,0,0,eS,[],[],0,eS,[],[],eS,eS) a i).2)) i).2.2)) (Z9K ((Z9K (f+1))+1)) i λh=>j0p (Z9K ((Z9K ((Z9K (f+1))+1))+1)) λr=>bif inb i (List.length h) then j3M (upd h i ((nth (0,0,0,eS,[],[],0,eS,[],[],eS,eS) h i).1,(nth (0,0,0,eS,[],[],0,eS,[],[],eS,eS) h i).2.1,(nth (0,0,0,eS,[],[],0,eS,[],[],eS,eS) h i).2.2.1,r,(nth (0,0,0,eS,[],[],0,eS,[],[],eS,eS) h i).2.2.2.2)) (Z9K ((Z9K ((Z9K ((Z9K (f+1))+1))+1))+1)) i λd j=>bif inb i (List.length d) then j4z (nth (0,0,0,eS,[],[],0,eS,[],[],eS,eS) d i).2.2.2.2.2.1 j λl m=>j3N (upd d i ((nth (0,0,0,eS,[],[],0,eS,[],[],eS,eS) d i).1,(nth (0,0,0,eS,[],[],0,eS,[],[],eS,eS) d i).2.1,(nth (0,0,0,eS,[],[],0,eS,[],[],eS,eS) d i).2.2.1,(nth (0,0,0,eS,[],[],0,eS,[],[],eS,eS) d i).2.2.2.1,(nth (0,0,0,eS,[],[],0,eS,[],[],eS,eS) d i).2.2.2.2.1,m,(nth (0,0,0,eS,[],[],0,eS,[],[],eS,eS) d i).2.2.2.2.2.2)) l i λb=>j0p (Z9K (l+1)) λz=>bif inb i (List.length b) then j3O (upd b i ((nth (0,0,0,eS,[],[],0,eS,[],[],eS,eS) b i).1,(nth (0,0,0,eS,[],[],0,eS,[],[],eS,eS) b i).2.1,(nth (0,0,0,eS,[],[],0,eS,[],[],eS,eS) b i).2.2.1,(nth (0,0,0,eS,[],[],0,eS,[],[],eS,eS) b i).2.2.2.1,(nth (0,0,0,eS,[],[],0,eS,[],[],eS,eS) b i).2.2.2.2.1,(nth (0,0,0,eS,[],[],0,eS,[],[],eS,eS) b i).2.2.2.2.2.1,(nth (0,0,0,eS,[],[],0,eS,[],[],eS,eS) b i).2.2.2.2.2.2.1,z,(nth (0,0,0,eS,[],[],0,eS,[],[],eS,eS) b i).2.2.2.2.2.2.2.2)) (Z9K ((Z9K (l+1))+1)) i λn k=>j3P n k i λp g=>j3Q p g i λq=>j3R q (Z9K (g+1)) i λw=>rec w (Z9K ((Z9K (g+1))+1)) (Z9K (i+1)) else none else none else none else none else none else y a f
def j4U:((List qP)×Int×Int)->((List qP)×Int×Int->Res)->(((List qP)->Int->Res))->Res:=λv rec q=>j1m v.1 v.2.1 v.2.2 (λa b i=>rec (a,b,i)) q
def jdn (n:Nat) (a:List qP) (d:Int) (i:Int) (b:(List qP)->Int->Res):Res:=Z1f (j4U) n (a,d,i) (b)
def jcA:Z1d Unit:=NdL 118 118 [.R 0 y20 .O,.I 1,.I 5] [] (λb f=>(b.1,b.2.1,b.2.2.1)) (λb v=>(v.1,v.2.1,v.2.2,())) (λf v=>()) (λb f=>j4U) λb f h=>((λg d=>h (.exit 0) [(0,v1 y20 g .O),(1,vI d)] []))
theorem jil:CN 1 26 Tryz.f45 jcA:=lK j0O [j0k,j0A,j0M,j13,j1P,j39,j5A] (oI 414 0 @jim (oI 6654 1 @jin (oI 26622 2 @jio (oI 425982 3 @jip (oI 851966 4 @jiq (oI 1703934 5 @jir (oI 6815742 6 @jis oN))))))) ([],[]) [(0,[0,1],[])] ([],[]) λ_ _ _ _ _=>by delta j4U j1m j0k j7t j0A jav j0M j13 j1P j39 j5A;refine gz j3L λ_ b=>gz j0p λ_ d=>gz j3M λ_ f=>gz j4z λ_ g=>gz j3N λ_ h=>gz j3O λ_ i=>gz j3P λ_ j=>gz j3Q λ_ k=>gz j3R λ_ l=> ?_;rewrite [<-b,<-d,<-f,<-g,<-h,<-i,<-j,<-k,<-l];kernel_rfl
def j6Y (a:List qP) (g:Int) (f:Int->(List qP)->Res):Res:=jdn Z1c a g 0 λd b=>f b d
def jau:Sig Unit:=sg [.inout y20 false,.borrow tI false] [false] [(y20,some [.O]),(tI,none)] [] λb g k=>j6Y b.1 b.2.1 (λf d=>k [wI f] [w1 y20 d .O] [])
theorem jjU:SO 45 jau:=fK (np:=1) j0O [j0k,j0A,j0M,j13,j1P,j39,j5A,jcA] (oI 26 7 @jil oN) false Tryz.func45 λ_ _ _ _=>by kernel_rfl
end
end Go.PI.G
namespace Go.PI.G
noncomputable section
open Go Go.PI Go.Proofs
open Go.Code (pl pr)
theorem j9S:Fns Tryz.prog [(26,jce),(28,j9d),(30,jcd),(42,jbx),(43,j8m),(44,j9c),(45,jau),(46,jat),(47,jas)]:=(Za6 jmm (Za6 jmp (Za6 jmj (Za6 jl4 (Za6 jkX (Za6 jmi (Za6 jjU (Za6 jjT (Za6 jjR Zas)))))))))
def j1b (h:List qP) (d:Int) (m:List Int) (i:List Int) (b:Bool->Res):Res:=j6X i 1 λr a=>j4y a 1 λf=>bif decide (f<0) then b false else bif (f != r) then b false else j2a h λj=>j2h j d λk=>j3g k m λl=>bif !l then b false else j4y a 1 λg=>bif decide (g<0) then b false else bif (g != r) then b false else b true
def j4u:Z1d Unit:=λσ k=>rdN σ 74<|rd1 σ 0 y20 .S λd=>rdI σ 1 λb=>rd1 σ 6 y21 .O λh=>rd1 σ 8 y21 .O λf=>j1b d b h f (λg=>k .ret (mkS 74 74 [(4,vB g)] []))
theorem jdT:CN 0 8191 Tryz.f9 j4u:=λb=>jn6 follows j2e j9S b [] oN ([],[]) [] ([4],[]) λσ k _ h=>rN h λw h=>rV h λy n h=>rV h λd p h=>rV h λA q h=>rV h λz r h=>⟨_,ZaM (m:=74) w (sC n (sC p (sC q (sC r sN)))) bN,.trans (by delta j1b jat jas j9d j8m j9c;refine gz j6X λ_ f=>gz j4y λ_ g=>gz j2a λ_ i=>gz j2h λ_ j=>gz j3g λ_ l=> ?_;rewrite [<-f,<-g,<-i,<-j,<-l];kernel_rfl) h⟩
def j1V (f:List qP) (b:Int) (d:Bool->Res):Res:=j8W f 1048576 λr=>bif decide (r<0) then d true else j2a f λj=>j6j j b λg=>j2a f λh=>j2h h b λi=>j3g i g λk=>bif !k then d false else j2a f λl=>j8T h l λm=>bif !m then d false else j6Y h 1 λn a=>bif decide (n<0) then d false else j3g i g λp=>bif !p then d false else j1b f b g i λt=>d t
def j1o:Sig Unit:=⟨[.borrow y20 false,.borrow tI false],[false],λvals ext k=>av vals y20 λd vals=>av vals tI λb vals=>nl vals<|nl ext<|j1V d b (λf=>k [wB f] [] [])⟩
theorem jf9:Z17 Tryz.prog 9 j1o:=jri (np:=0) follows j2e j9S [j4u] (oI 8191 0 @jdT oN) false Tryz.func9 λ_ _ k _ h=>aV h λ_ _ _ _ _ h=>aV h λ_ _ _ _ _ h=>nL h λ_ h=>nL h λ_ h=>by subst_vars;exact .trans (by delta j1V jce j9d jbx j8m j9c jcd jau j4u;refine gz j8W λ_ b=>gz j2a λ_ d=>gz j6j λ_ f=>gz j2h λ_ g=>gz j3g λ_ i=>gz j8T λ_ j=>gz j6Y λ_ l=>gz j1b λ_ m=> ?_;rewrite [<-b,<-d,<-f,<-g,<-i,<-j,<-l,<-m];kernel_rfl) h
end
end Go.PI.G
namespace Go.PI.G
open Go Go.PI
abbrev V:=Int×Int×ByteArray
theorem jbQ (s:ByteArray):(Z1n s).length=s.size:=by unfold Z1n;simp
theorem j09 (a b:ByteArray):sEq a b=true↔a=b:=by
 unfold sEq
 rw [beq_iff_eq]
 constructor
 ·intro h
  rw [ByteArray.ext_iff]
  have d:a.toList=a.data.toList:=by rw [ByteArray.toList_eq]
  have f:b.toList=b.data.toList:=by rw [ByteArray.toList_eq]
  rw [d,f] at h
  exact Array.toList_inj.1 h
 ·rintro rfl;rfl
def jnL (n:Int):Bool:=decide (-1099511627775<=n/\n<=1099511627775)
def j0n (v:V):Bool:=
 bif v.1==0 then (v.2.1==0)&&sEq v.2.2 eS
 else bif v.1==1 then ((v.2.1==0)||(v.2.1==1))&&sEq v.2.2 eS
 else bif v.1==2 then jnL v.2.1&&sEq v.2.2 eS
 else bif v.1==3 then (v.2.1==0)&&decide (nI v.2.2.size<=30)
 else false
theorem jq4 (x:Int):decide (0<=x/\x<=1)=((x==0)||(x==1)):=by
 by_cases h:0<=x/\x<=1
 ·rw [decide_eq_true h]
  have:x=0\/x=1:=by omega
  rcases this with rfl | rfl<;>rfl
 ·rw [decide_eq_false h]
  have b:(x==0)=false:=by simp;omega
  have d:(x==1)=false:=by simp;omega
  rw [b,d];rfl
theorem jgk {v:V} (h:j0n v=true):v=(0,0,eS)\/(∃ n,(n=0\/n=1)/\v=(1,n,eS))\/(∃ n,(-1099511627775<=n/\n<=1099511627775)/\v=(2,n,eS))\/∃ s:ByteArray,s.size<=30/\v=(3,0,s):=by
 obtain ⟨t,n,s⟩:=v
 unfold j0n at h
 simp only at h
 cases d:t==0
 ·cases f:t==1
  ·cases g:t==2
   ·cases i:t==3
    ·rw [d,f,g,i] at h;cases h
    ·rw [d,f,g,i] at h
     simp only [cond_false,cond_true,Bool.and_eq_true,beq_iff_eq,decide_eq_true_eq] at h i
     obtain ⟨rfl,h⟩:=h
     subst i
     exact .inr (.inr (.inr ⟨s,by unfold nI at h;omega,rfl⟩))
   ·rw [d,f,g] at h
    simp only [cond_false,cond_true,Bool.and_eq_true,beq_iff_eq] at h g
    obtain ⟨h,b⟩:=h
    rw [j09] at b
    subst b;subst g
    exact .inr (.inr (.inl ⟨n,of_decide_eq_true h,rfl⟩))
  ·rw [d,f] at h
   simp only [cond_false,cond_true,Bool.and_eq_true,Bool.or_eq_true,beq_iff_eq] at h f
   obtain ⟨h,b⟩:=h
   rw [j09] at b
   subst b;subst f
   exact .inr (.inl ⟨n,h,rfl⟩)
 ·rw [d] at h
  simp only [cond_true,Bool.and_eq_true,beq_iff_eq] at h d
  obtain ⟨h,b⟩:=h
  rw [j09] at b
  subst b;subst d;subst h
  exact .inl rfl
theorem jqm {v:V} (h:j0n v=true):v.2.2.size<=30:=by
 rcases jgk h with rfl | ⟨n,_,rfl⟩ | ⟨n,_,rfl⟩ | ⟨s,b,rfl⟩
 ·show (0:Nat)<=30;omega
 ·show (0:Nat)<=30;omega
 ·show (0:Nat)<=30;omega
 ·exact b
def be (n:Nat):Nat->List Int
 | 0=>[]
 | s+1=>((n / 256 ^ s % 256:Nat):Int)::be n s
theorem jpC (n:Nat):(s:Nat)->(be n s).length=s
 | 0=>rfl
 | s+1=>by simp [be,jpC n s]
noncomputable def wB (v:V):List Int:=
 bif v.1==1 then [1,v.2.1]
 else bif v.1==2 then 2::(bif decide (v.2.1<0) then 1 else 0)::be v.2.1.natAbs 6
 else bif v.1==3 then 3::nI v.2.2.size::Z1n v.2.2
 else [0]
theorem jrN {v:V} (h:j0n v=true):(wB v).length<=32:=by
 rcases jgk h with rfl | ⟨n,_,rfl⟩ | ⟨n,_,rfl⟩ | ⟨s,b,rfl⟩
 ·show (1:Nat)<=32;omega
 ·show (2:Nat)<=32;omega
 ·show (2::(bif decide (n<0) then 1 else 0)::be n.natAbs 6).length<=32
  simp [jpC]
 ·show (3::nI s.size::Z1n s).length<=32
  simp [jbQ];omega
theorem jbe:(l:List V)->(∀ v∈l,j0n v=true)->(l.flatMap wB).length<=32 * l.length
 | [],_=>by simp
 | v::l,h=>by
  have d:=jrN (h v (by simp))
  have f:=jbe l λv b=>h v (List.mem_cons_of_mem _ b)
  simp only [List.flatMap_cons,List.length_append,List.length_cons]
  omega
end Go.PI.G
set_option linter.unusedSimpArgs false
namespace Go.PI.G
open Go Go.PI Go.Proofs
theorem j6u (x b d:Int) (k:Bool->Res):j0f x b d k=k (decide (b<=x/\x<=d)):=by
 unfold j0f
 by_cases h:x>=b
 ·rw [decide_eq_true h,cond_true]
  congr 1
  exact decide_eq_decide.2 (by omega)
 ·rw [decide_eq_false h,cond_false]
  congr 1
  exact (decide_eq_false (by omega)).symm
end Go.PI.G
namespace Go.PI.G
open Go Go.PI Go.Proofs
theorem jpY (n:Int) (k:Bool->Res):jeX n k=k (jnL n):=j6u n _ _ k
theorem j8p (v:V) (k:Bool->Res):j1g v k=k (j0n v):=by
 unfold j1g j0n
 cases v.1==0
 ·cases v.1==1
  ·cases v.1==2
   ·cases v.1==3
    ·rfl
    ·cases v.2.1==0<;>rfl
   ·rw [cond_false,cond_false,cond_true,jpY]
    cases jnL v.2.1<;>rfl
  ·cases v.2.1==0
   ·cases v.2.1==1<;>rfl
   ·rfl
 ·cases v.2.1==0<;>rfl
theorem j8e (v:V) (k:Bool->Res):j0Z v k=k (j0n v):=by
 unfold j0Z j0n
 simp only [j6u,jq4]
 cases v.1==0
 ·cases v.1==1
  ·cases v.1==2
   ·cases v.1==3
    ·rfl
    ·cases v.2.1==0<;>rfl
   ·rw [cond_false,cond_false,cond_true,cond_false,cond_false,cond_true]
    show (bif jnL v.2.1 then _ else _)=_
    cases jnL v.2.1<;>rfl
  ·cases v.2.1==0
   ·cases v.2.1==1<;>rfl
   ·rfl
 ·cases v.2.1==0<;>rfl
end Go.PI.G
namespace Go.PI.G
noncomputable section
open Go Go.PI
def msr:(τ:Ty)->El τ->Nat
 | .str,s=>ByteArray.size s
 | .slice e,l=>List.length (α:=El e) l+(List.map (msr e) l).sum
 | .pair a b,x=>msr a x.1+msr b x.2
 | .int _,_=>0
 | .bool,_=>0
 | .unit,_=>0
def wgt:(τ:Ty)->El τ->Nat
 | .str,_=>1
 | .slice e,l=>(List.map (wgt e) l).sum
 | .pair a b,x=>wgt a x.1+wgt b x.2
 | .int _,_=>1
 | .bool,_=>1
 | .unit,_=>0
def j4r:Ty->Nat
 | .slice e=>j4r e
 | .pair a b=>j4r a+j4r b
 | .unit=>0
 | _=>1
theorem jkR {α:Type} (f g:α->Nat) (c:Nat) (h:∀ x,f x<=(g x+1) * c):(l:List α)->(l.map f).sum<=(l.length+(l.map g).sum) * c
 | []=>by simp
 | x::l=>by
  have b:=h x
  have d:=jkR f g c h l
  simp only [List.map_cons,List.sum_cons,List.length_cons]
  have:(l.length+1+(g x+(l.map g).sum)) * c=(g x+1) * c+(l.length+(l.map g).sum) * c:=by
   rw [<-Nat.add_mul];congr 1;omega
  omega
theorem jkT:(τ:Ty)->(x:El τ)->wgt τ x<=(msr τ x+1) * j4r τ
 | .str,_=>by simp [wgt,j4r]
 | .int _,_=>by simp [wgt,j4r]
 | .bool,_=>by simp [wgt,j4r]
 | .unit,_=>by simp [wgt]
 | .pair a b,x=>by
  have f:=jkT a x.1
  have h:=jkT b x.2
  simp only [wgt,msr,j4r,Nat.mul_add]
  have d:(msr a x.1+1) * j4r a<=(msr a x.1+msr b x.2+1) * j4r a:=Nat.mul_le_mul_right _ (by omega)
  have g:(msr b x.2+1) * j4r b<=(msr a x.1+msr b x.2+1) * j4r b:=Nat.mul_le_mul_right _ (by omega)
  omega
 | .slice e,l=>by
  have f:=jkR (wgt e) (msr e) (j4r e) (jkT e) l
  simp only [wgt,msr,j4r]
  have d:(List.length (α:=El e) l+(List.map (msr e) l).sum) * j4r e<=(List.length (α:=El e) l+(List.map (msr e) l).sum+1) * j4r e:=Nat.mul_le_mul_right _ (by omega)
  exact Nat.le_trans f d
theorem j4A {a b:Ty} {x:El (.pair a b)}:msr a x.1<=msr (.pair a b) x:=Nat.le_add_right _ _
theorem j03 {a b:Ty} {x:El (.pair a b)}:msr b x.2<=msr (.pair a b) x:=Nat.le_add_left _ _
def dgt (x:Int):ByteArray:=Z3B [wu8 (Z9K (48+x))]
theorem jdb (x:Int):(dgt x).size=1:=rfl
def jfZ (n:Nat):ByteArray:=if h:n<10 then dgt n else jfZ (n / 10)++dgt ((n % 10:Nat):Int)
termination_by n
decreasing_by omega
def mT (k:Int):ByteArray:=(⟨#[109]⟩:ByteArray)++jfZ k.toNat
def mk:(τ:Ty)->El τ->Int->El τ
 | .str,_,k=>mT k
 | .slice e,l,k=>mkL (wgt e) (mk e) l k
 | .pair a b,x,k=>(mk a x.1 k,mk b x.2 (k+(wgt a x.1:Int)))
 | .int .u8,_,k=>wu8 k
 | .int _,_,k=>k
 | .bool,_,k=>(Int.tmod k 3==0)
 | .unit,x,_=>x
theorem jhA (e:Ty) (l:List (El e)):msr (.slice e) l=l.length+(l.map (msr e)).sum:=rfl
theorem j0h {e:Ty} {l:List (El e)} {n:Nat} (h:msr (.slice e) l<=n):l.length<=n:=by
 have:msr (.slice e) l=l.length+(l.map (msr e)).sum:=rfl
 omega
theorem j11 {e:Ty} {l:List (El e)} {n:Nat} (h:msr (.slice e) l<=n) {x:El e} (b:x∈l):msr e x<=n:=by
 have d:msr (.slice e) l=l.length+(l.map (msr e)).sum:=rfl
 have:=Z9H (msr e) l x b
 omega
theorem jmc {τ:Ty} {x:El τ} (b:j4r τ<=200) (h:msr τ x<=1048576):wgt τ x<=209715400:=by
 have d:=jkT τ x
 have f:(msr τ x+1) * j4r τ<=1048577 * 200:=Nat.mul_le_mul (by omega) b
 omega
theorem j4h (a b:Ty) (x:El (.pair a b)):wgt (.pair a b) x=wgt a x.1+wgt b x.2:=rfl
theorem j6o (k:IntKind) (x:El (.int k)):wgt (.int k) x=1:=rfl
theorem j4g (x:El .bool):wgt .bool x=1:=rfl
theorem j6p (x:El .str):wgt .str x=1:=rfl
theorem j5T (a b:Ty) (x:El (.pair a b)) (k:Int):mk (.pair a b) x k=(mk a x.1 k,mk b x.2 (k+(wgt a x.1:Int))):=rfl
theorem j3Y (e:Ty) (l:El (.slice e)) (k:Int):mk (.slice e) l k=mkL (wgt e) (mk e) l k:=rfl
theorem j7R (x:El (.int .i64)) (k:Int):mk (.int .i64) x k=k:=rfl
theorem jam (x:El (.int .u8)) (k:Int):mk (.int .u8) x k=wu8 k:=rfl
theorem j5S (x:El .bool) (k:Int):mk .bool x k=(Int.tmod k 3==0):=rfl
theorem j7S (x:El .str) (k:Int):mk .str x k=mT k:=rfl
theorem jfx {α:Type} (z:α) (l:List α) (i:Nat) (v:α) (h:i<l.length):nth z (upd l (i:Int) v) (i:Int)=v:=by
 rw [ZaF,Zay _ _ _ (by simpa using h)];simp
theorem jfN {α:Type} (l:List α) (i:Int) (u v:α):upd (upd l i u) i v=upd l i v:=by
 unfold upd;simp
theorem jfM {α:Type} (l:List α) (i:Int) (v:α):(upd l i v).length=l.length:=by unfold upd;simp
end
end Go.PI.G
