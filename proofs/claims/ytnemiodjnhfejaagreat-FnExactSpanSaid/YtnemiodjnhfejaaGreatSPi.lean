/-
  Program's code interpreted over typed values; printed texts; plain laws. No conditions.
-/
import Derived.Test.YtnemiodjnhfejaaGreatSPFc
import Derived.Test.YtnemiodjnhfejaaGreatSPd
import Derived.Test.YtnemiodjnhfejaaGreatSPh
import Derived.Test.YtnemiodjnhfejaaGreatSPf
set_option linter.unusedVariables false
set_option maxRecDepth 100000
namespace Go.PI.G
noncomputable section
open Go Go.PI Go.Proofs
open Go.Code (pl pr)
theorem jdE:FS [(108,jai),(168,j3V)]:=(Z9H jiV (Z9H jaT Za2))
def j2N (l:List qP) (place:Int) (d:List qP) (f:Int) (b:Int) (rec:Int->Res) (g:Unit->Res) (h:Int->Res):Res:=bif decide (b<f) then bif inb b (List.length d) then bif ((nth (0,0,0,eS,[],[],0,eS,[],[],eS,eS) d b).1==1) then bif inb (Z9x (place-1)) (List.length l) then bif ((nth (0,0,0,eS,[],[],0,eS,[],[],eS,eS) d b).2.1==(nth (0,0,0,eS,[],[],0,eS,[],[],eS,eS) l (Z9x (place-1))).2.1) then h (Z9x (b+1)) else rec (Z9x (b+1)) else none else rec (Z9x (b+1)) else none else g ()
def j4P (l:List qP) (place:Int) (b:List qP) (d:Int):Int->(Int->Res)->((Unit->Res)×(Int->Res))->Res:=λv rec q=>j2N l place b d v (λf=>rec (f)) q.1 q.2
def j9A (l:List qP) (place:Int) (b:List qP) (d:Int) (n:Nat) (f:Int) (g:Unit->Res) (h:Int->Res):Res:=Z1N (j4P l place b d) n (f) (g,h)
def j8M:Z1q Unit:=NdL 36 36 [.R 0 y20 .S,.I 1,.R 12 y20 .S,.I 13,.I 14] [] (λb d=>(b.2.2.2.2.1)) (λb v=>(b.1,b.2.1,b.2.2.1,b.2.2.2.1,v,())) (λd v=>()) (λb d=>j4P b.1 b.2.1 b.2.2.1 b.2.2.2.1) λb d f=>((λ_=>f (.exit 0) [] []),(λg=>f .ret [(4,vI g)] []))
theorem jhK:CN 0 58 Tryz.f101 j8M:=lK jdE [] oN ([],[]) [(0,[],[])] ([4],[]) λ_ _ _ _ _=>by kernel_rfl
def j74 (l:List qP) (place:Int) (b:Int->Res):Res:=j5r l λr=>j20 r place λd=>bif !d then b 0 else j9A l place l (nI (List.length l)) Z1Y 0 (λ_=>b 0) (λt=>b t)
def jjA:Sig Unit:=sg [.look y20 false,.look tI false] [false] [(y20,none),(tI,none)] [] λb f k=>j74 b.1 b.2.1 (λd=>k [wI d] [] [])
theorem jj1:SO 101 jjA:=fK (np:=0) jdE [j8M] (oI 58 0 @jhK oN) false Tryz.func101 λ_ _ _ _=>by delta j74 jai j3V j8M j9A;refine gz j5r λ_ b=>gz j20 λ_ d=>gz j4P λ_ f=> ?_;rewrite [<-b,<-d,<-f];kernel_rfl
def jaL (l:List qP) (place:Int) (b:Int->Res):Res:=j74 l place λr=>bif (r==0) then b 0 else b (Z9x ((Z9x (place-r))+1))
def jgS:Sig Unit:=sg [.look y20 false,.look tI false] [false] [(y20,none),(tI,none)] [] λb f k=>jaL b.1 b.2.1 (λd=>k [wI d] [] [])
theorem jms:SO 27 jgS:=fK (np:=0) (Z9H jj1 Za2) [] oN false Tryz.func27 λ_ _ _ _=>by kernel_rfl
theorem jgD:FS [(104,jc9),(163,j0Q)]:=(Z9H jl5 (Z9H j1C Za2))
def j53 (l:List qP) (place:Int) (d:List qP) (f:Int) (b:Int) (rec:Int->Res) (g:Unit->Res) (h:(List qP)->Res):Res:=bif decide (b<f) then bif inb b (List.length d) then bif ((nth (0,0,0,eS,[],[],0,eS,[],[],eS,eS) d b).1==1) then bif inb (Z9x (place-1)) (List.length l) then bif ((nth (0,0,0,eS,[],[],0,eS,[],[],eS,eS) d b).2.1==(nth (0,0,0,eS,[],[],0,eS,[],[],eS,eS) l (Z9x (place-1))).2.1) then bif Z87 b place (List.length l) then h (sub l b place) else none else rec (Z9x (b+1)) else none else rec (Z9x (b+1)) else none else g ()
def j7j (l:List qP) (place:Int) (b:List qP) (d:Int):Int->(Int->Res)->((Unit->Res)×((List qP)->Res))->Res:=λv rec q=>j53 l place b d v (λf=>rec (f)) q.1 q.2
def jbX (l:List qP) (place:Int) (b:List qP) (d:Int) (n:Nat) (f:Int) (g:Unit->Res) (h:(List qP)->Res):Res:=Z1N (j7j l place b d) n (f) (g,h)
def jbd:Z1q Unit:=NdL 52 52 [.R 0 y20 .S,.I 1,.R 26 y20 .S,.I 27,.I 28] [] (λb d=>(b.2.2.2.2.1)) (λb v=>(b.1,b.2.1,b.2.2.1,b.2.2.2.1,v,())) (λd v=>()) (λb d=>j7j b.1 b.2.1 b.2.2.1 b.2.2.2.1) λb d f=>((λ_=>f (.exit 0) [] []),(λg=>f .ret [(4,v1 y20 g .S)] []))
theorem jkD:CN 0 58 Tryz.f102 jbd:=lK jgD [] oN ([],[]) [(0,[],[])] ([4],[]) λ_ _ _ _ _=>by kernel_rfl
def jaH (l:List qP) (place:Int) (b:(List qP)->Res):Res:=j92 l λr=>bif !r then b [] else j0a place 1 (nI (List.length l)) λd=>bif !d then b [] else bif inb (Z9x (place-1)) (List.length l) then bif ((nth (0,0,0,eS,[],[],0,eS,[],[],eS,eS) l (Z9x (place-1))).1 != 3) then b [] else jbX l place l (nI (List.length l)) Z1Y 0 (λ_=>b []) (λt=>b t) else none
def jmF:Sig Unit:=sg [.borrow y20 false,.borrow tI false] [false] [(y20,none),(tI,none)] [] λb f k=>jaH b.1 b.2.1 (λd=>k [w1 y20 d .S] [] [])
theorem jmo:SO 102 jmF:=fK (np:=0) jgD [jbd] (oI 58 0 @jkD oN) true Tryz.func102 λ_ _ _ _=>by delta jaH jc9 j0Q jbd jbX;refine gz j92 λ_ b=>gz j0a λ_ d=>gz j7j λ_ f=> ?_;rewrite [<-b,<-d,<-f];kernel_rfl
def jaG (l:List qP) (place:Int) (b:Int->Res):Res:=jaH l place λr=>b (nI (List.length r))
def jgQ:Sig Unit:=sg [.look y20 false,.look tI false] [false] [(y20,none),(tI,none)] [] λb f k=>jaG b.1 b.2.1 (λd=>k [wI d] [] [])
theorem jmm:SO 29 jgQ:=fK (np:=0) (Z9H jmo Za2) [] oN false Tryz.func29 λ_ _ _ _=>by kernel_rfl
end
end Go.PI.G
namespace Go.PI.G
noncomputable section
open Go Go.PI Go.Proofs
open Go.Code (pl pr)
def j9b (a:Int×Int×qB) (left:Int) (b:Int->Res):Res:=bif decide ((Z9x (left-(nI (ByteArray.size a.2.2))))<0) then b (-1) else b (Z9x (left-(nI (ByteArray.size a.2.2))))
def jm1:Sig Unit:=sg [.look y2 true,.look tI false] [false] [(y2,none),(tI,none)] [] λb f k=>j9b b.1 b.2.1 (λd=>k [wI d] [] [])
theorem jbJ:SO 105 jm1:=fK (np:=0) Za2 [] oN false Tryz.func105 λ_ _ _ _=>by kernel_rfl
def j9d (a:Int×Int×qB) (b:qV->Res):Res:=b (a.1,a.2.1,a.2.2)
def jm4:Sig Unit:=sg [.look y2 true] [true] [(y2,none)] [] λd f k=>j9d d.1 (λb=>k [⟨y2,true,b,[]⟩] [] [])
theorem jbK:SO 106 jm4:=fK (np:=0) Za2 [] oN false Tryz.func106 λ_ _ _ _=>by kernel_rfl
def j99 (a:Int×Int×qB) (b:Int×Int×qB) (d:Bool->Res):Res:=bif (a.1 != b.1) then d false else bif (a.2.1 != b.2.1) then d false else bif sNe a.2.2 b.2.2 then d false else d true
def jlY:Sig Unit:=sg [.look y2 true,.look y2 true] [false] [(y2,none),(y2,none)] [] λb f k=>j99 b.1 b.2.1 (λd=>k [wB d] [] [])
theorem jbI:SO 107 jlY:=fK (np:=0) Za2 [] oN false Tryz.func107 λ_ _ _ _=>by kernel_rfl
end
end Go.PI.G
namespace Go.PI.G
noncomputable section
open Go Go.PI Go.Proofs
open Go.Code (pl pr)
def jbs (a:qB×Int×Bool×Bool×Int×Int×qB) (left:Int) (b:Int->Res):Res:=bif decide ((Z9x (left-(nI (ByteArray.size a.1))))<0) then b (-1) else j9b a.2.2.2.2 (Z9x (left-(nI (ByteArray.size a.1)))) λr=>bif decide (r<0) then b (-1) else b r
def jlZ:Sig Unit:=sg [.look y7 true,.look tI false] [false] [(y7,none),(tI,none)] [] λb f k=>jbs b.1 b.2.1 (λd=>k [wI d] [] [])
theorem jfE:SO 285 jlZ:=fK (np:=0) (Z9H jbJ Za2) [] oN false Tryz.func285 λ_ _ _ _=>by kernel_rfl
def jbu (a:qB×Int×Bool×Bool×Int×Int×qB) (b:qC->Res):Res:=j9d a.2.2.2.2 λr=>b (a.1,a.2.1,a.2.2.1,a.2.2.2.1,r)
def jm2:Sig Unit:=sg [.look y7 true] [true] [(y7,none)] [] λd f k=>jbu d.1 (λb=>k [⟨y7,true,b,[]⟩] [] [])
theorem jfG:SO 292 jm2:=fK (np:=0) (Z9H jbK Za2) [] oN false Tryz.func292 λ_ _ _ _=>by kernel_rfl
def jbq (a:qB×Int×Bool×Bool×Int×Int×qB) (b:qB×Int×Bool×Bool×Int×Int×qB) (d:Bool->Res):Res:=bif sNe a.1 b.1 then d false else bif (a.2.1 != b.2.1) then d false else bif !(a.2.2.1==b.2.2.1) then d false else bif !(a.2.2.2.1==b.2.2.2.1) then d false else j99 a.2.2.2.2 b.2.2.2.2 λr=>bif !r then d false else d true
def jlW:Sig Unit:=sg [.look y7 true,.look y7 true] [false] [(y7,none),(y7,none)] [] λb f k=>jbq b.1 b.2.1 (λd=>k [wB d] [] [])
theorem jfC:SO 302 jlW:=fK (np:=0) (Z9H jbI Za2) [] oN false Tryz.func302 λ_ _ _ _=>by kernel_rfl
end
end Go.PI.G
namespace Go.PI.G
noncomputable section
open Go Go.PI Go.Proofs
open Go.Code (pl pr)
def j3k (a:List qC) (left:Int) (i:Int) (rec:Int->Int->Res) (b:Int->Res) (d:Unit->Res):Res:=bif decide (i<(nI (List.length a))) then bif inb i (List.length a) then jbs (nth (eS,0,false,false,0,0,eS) a i) left λr=>bif decide (r<0) then d () else rec r (Z9x (i+1)) else none else b left
def jc2 (a:List qC):(Int×Int)->(Int×Int->Res)->((Int->Res)×(Unit->Res))->Res:=λv rec q=>j3k a v.1 v.2 (λleft i=>rec (left,i)) q.1 q.2
def ja7 (a:List qC) (n:Nat) (left:Int) (i:Int) (b:Int->Res) (d:Unit->Res):Res:=Z1N (jc2 a) n (left,i) (b,d)
def jd3:Z1q Unit:=NdL 27 27 [.R 0 y8 .S,.I 1,.I 5] [] (λd f=>(d.2.1,d.2.2.1)) (λd v=>(d.1,v.1,v.2,())) (λf v=>()) (λd f=>jc2 d.1) λd f g=>((λb=>g (.exit 0) [(1,vI b)] []),(λ_=>g .ret [(4,vI (-1))] []))
theorem jil:CN 0 122 Tryz.f241 jd3:=lK (Z9H jfE Za2) [] oN ([],[]) [(0,[1],[])] ([4],[]) λ_ _ _ _ _=>by kernel_rfl
def j7X (a:List qC) (left:Int) (d:Int->Res):Res:=bif decide ((Z9x (left-(nI (List.length a))))<0) then d (-1) else ja7 a Z1Y (Z9x (left-(nI (List.length a)))) 0 (λb=>d b) (λ_=>d (-1))
def jf9:Sig Unit:=sg [.look y8 false,.look tI false] [false] [(y8,none),(tI,none)] [] λb f k=>j7X b.1 b.2.1 (λd=>k [wI d] [] [])
theorem jkh:SO 241 jf9:=fK (np:=0) (Z9H jfE Za2) [jd3] (oI 122 0 @jil oN) false Tryz.func241 λ_ _ _ _=>by kernel_rfl
def j3n (a:List qC) (b:List qC) (i:Int) (rec:qE->Int->Res) (d:qE->Res):Res:=bif decide (i<(nI (List.length a))) then bif inb i (List.length a) then jbu (nth (eS,0,false,false,0,0,eS) a i) λr=>bif inb i (List.length b) then rec (upd b i r) (Z9x (i+1)) else none else none else d b
def j8m (a:List qC):(qE×Int)->(qE×Int->Res)->((qE->Res))->Res:=λv rec q=>j3n a v.1 v.2 (λb i=>rec (b,i)) q
def jj9 (a:List qC) (n:Nat) (b:List qC) (i:Int) (d:qE->Res):Res:=Z1N (j8m a) n (b,i) (d)
def jd6:Z1q Unit:=NdL 23 23 [.R 0 y8 .S,.R 3 y8 .O,.I 4] [] (λb f=>(b.2.1,b.2.2.1)) (λb v=>(b.1,v.1,v.2,())) (λf v=>()) (λb f=>j8m b.1) λb f g=>((λd=>g (.exit 0) [(3,v1 y8 d .O)] []))
theorem jio:CN 0 58 Tryz.f249 jd6:=lK (Z9H jfG Za2) [] oN ([],[]) [(0,[3],[])] ([],[]) λ_ _ _ _ _=>by kernel_rfl
def j80 (a:List qC) (d:qE->Res):Res:=bif Z9w (nI (List.length a)) (nI (List.length a)) then jj9 a Z1Y (Z97 (nI (List.length a)) (eS,0,false,false,0,0,eS)) 0 λb=>d b else none
def jfc:Sig Unit:=sg [.borrow y8 false] [false] [(y8,none)] [] λd f k=>j80 d.1 (λb=>k [w1 y8 b .O] [] [])
theorem jkk:SO 249 jfc:=fK (np:=0) (Z9H jfG Za2) [jd6] (oI 58 0 @jio oN) false Tryz.func249 λ_ _ _ _=>by kernel_rfl
def j3h (a:List qC) (b:List qC) (i:Int) (rec:Int->Res) (d:Unit->Res) (f:Unit->Res):Res:=bif decide (i<(nI (List.length a))) then bif inb i (List.length a) then bif inb i (List.length b) then jbq (nth (eS,0,false,false,0,0,eS) a i) (nth (eS,0,false,false,0,0,eS) b i) λr=>bif !r then f () else rec (Z9x (i+1)) else none else none else d ()
def jbZ (a:List qC) (b:List qC):Int->(Int->Res)->((Unit->Res)×(Unit->Res))->Res:=λv rec q=>j3h a b v (λi=>rec (i)) q.1 q.2
def je1 (a:List qC) (b:List qC) (n:Nat) (i:Int) (d:Unit->Res) (f:Unit->Res):Res:=Z1N (jbZ a b) n (i) (d,f)
def jd0:Z1q Unit:=NdL 27 27 [.R 0 y8 .S,.R 1 y8 .S,.I 5] [] (λb d=>(b.2.2.1)) (λb v=>(b.1,b.2.1,v,())) (λd v=>()) (λb d=>jbZ b.1 b.2.1) λb d f=>((λ_=>f (.exit 0) [] []),(λ_=>f .ret [(4,vB false)] []))
theorem jii:CN 0 58 Tryz.f258 jd0:=lK (Z9H jfC Za2) [] oN ([],[]) [(0,[],[])] ([4],[]) λ_ _ _ _ _=>by kernel_rfl
def j7U (a:List qC) (b:List qC) (d:Bool->Res):Res:=bif ((nI (List.length a)) != (nI (List.length b))) then d false else je1 a b Z1Y 0 (λ_=>d true) (λ_=>d false)
def jf6:Sig Unit:=sg [.look y8 false,.look y8 false] [false] [(y8,none),(y8,none)] [] λb f k=>j7U b.1 b.2.1 (λd=>k [wB d] [] [])
theorem jke:SO 258 jf6:=fK (np:=0) (Z9H jfC Za2) [jd0] (oI 58 0 @jii oN) false Tryz.func258 λ_ _ _ _=>by kernel_rfl
end
end Go.PI.G
namespace Go.PI.G
noncomputable section
open Go Go.PI Go.Proofs
open Go.Code (pl pr)
def j1I (a:qL) (left:Int) (i:Int) (rec:Int->Int->Res) (b:Int->Res) (d:Unit->Res):Res:=bif decide (i<(nI (List.length a))) then bif inb i (List.length a) then bif decide ((Z9x (left-(nI (ByteArray.size (nth eS a i)))))<0) then d () else rec (Z9x (left-(nI (ByteArray.size (nth eS a i))))) (Z9x (i+1)) else none else b left
def j9R (a:qL):(Int×Int)->(Int×Int->Res)->((Int->Res)×(Unit->Res))->Res:=λv rec q=>j1I a v.1 v.2 (λleft i=>rec (left,i)) q.1 q.2
def j7E (a:qL) (n:Nat) (left:Int) (i:Int) (b:Int->Res) (d:Unit->Res):Res:=Z1N (j9R a) n (left,i) (b,d)
def jaP:Z1q Unit:=NdL 28 28 [.R 0 y0 .S,.I 1,.I 5] [] (λd f=>(d.2.1,d.2.2.1)) (λd v=>(d.1,v.1,v.2,())) (λf v=>()) (λd f=>j9R d.1) λd f g=>((λb=>g (.exit 0) [(1,vI b)] []),(λ_=>g .ret [(4,vI (-1))] []))
theorem jfY:CN 0 122 Tryz.f82 jaP:=lK Za2 [] oN ([],[]) [(0,[1],[])] ([4],[]) λ_ _ _ _ _=>by kernel_rfl
def j56 (a:qL) (left:Int) (d:Int->Res):Res:=bif decide ((Z9x (left-(nI (List.length a))))<0) then d (-1) else j7E a Z1Y (Z9x (left-(nI (List.length a)))) 0 (λb=>d b) (λ_=>d (-1))
def jcc:Sig Unit:=sg [.look y0 false,.look tI false] [false] [(y0,none),(tI,none)] [] λb f k=>j56 b.1 b.2.1 (λd=>k [wI d] [] [])
theorem jh3:SO 82 jcc:=fK (np:=0) Za2 [jaP] (oI 122 0 @jfY oN) false Tryz.func82 λ_ _ _ _=>by kernel_rfl
def j1J (a:qL) (b:qL) (i:Int) (rec:qL->Int->Res) (d:qL->Res):Res:=bif decide (i<(nI (List.length a))) then bif inb i (List.length a) then bif inb i (List.length b) then rec (upd b i (nth eS a i)) (Z9x (i+1)) else none else none else d b
def j6n (a:qL):(qL×Int)->(qL×Int->Res)->((qL->Res))->Res:=λv rec q=>j1J a v.1 v.2 (λb i=>rec (b,i)) q
def jgw (a:qL) (n:Nat) (b:qL) (i:Int) (d:qL->Res):Res:=Z1N (j6n a) n (b,i) (d)
def jaQ:Z1q Unit:=NdL 22 22 [.R 0 y0 .S,.R 3 y0 .O,.I 4] [] (λb f=>(b.2.1,b.2.2.1)) (λb v=>(b.1,v.1,v.2,())) (λf v=>()) (λb f=>j6n b.1) λb f g=>((λd=>g (.exit 0) [(3,v1 y0 d .O)] []))
theorem jfZ:CN 0 58 Tryz.f88 jaQ:=lK Za2 [] oN ([],[]) [(0,[3],[])] ([],[]) λ_ _ _ _ _=>by kernel_rfl
def j57 (a:qL) (d:qL->Res):Res:=bif Z9w (nI (List.length a)) (nI (List.length a)) then jgw a Z1Y (Z97 (nI (List.length a)) eS) 0 λb=>d b else none
def jcd:Sig Unit:=sg [.borrow y0 false] [false] [(y0,none)] [] λd f k=>j57 d.1 (λb=>k [w1 y0 b .O] [] [])
theorem jh4:SO 88 jcd:=fK (np:=0) Za2 [jaQ] (oI 58 0 @jfZ oN) false Tryz.func88 λ_ _ _ _=>by kernel_rfl
def j1H (a:qL) (b:qL) (i:Int) (rec:Int->Res) (d:Unit->Res) (f:Unit->Res):Res:=bif decide (i<(nI (List.length a))) then bif inb i (List.length a) then bif inb i (List.length b) then bif sNe (nth eS a i) (nth eS b i) then f () else rec (Z9x (i+1)) else none else none else d ()
def j9Q (a:qL) (b:qL):Int->(Int->Res)->((Unit->Res)×(Unit->Res))->Res:=λv rec q=>j1H a b v (λi=>rec (i)) q.1 q.2
def jbj (a:qL) (b:qL) (n:Nat) (i:Int) (d:Unit->Res) (f:Unit->Res):Res:=Z1N (j9Q a b) n (i) (d,f)
def jaO:Z1q Unit:=NdL 26 26 [.R 0 y0 .S,.R 1 y0 .S,.I 5] [] (λb d=>(b.2.2.1)) (λb v=>(b.1,b.2.1,v,())) (λd v=>()) (λb d=>j9Q b.1 b.2.1) λb d f=>((λ_=>f (.exit 0) [] []),(λ_=>f .ret [(4,vB false)] []))
theorem jfX:CN 0 58 Tryz.f97 jaO:=lK Za2 [] oN ([],[]) [(0,[],[])] ([4],[]) λ_ _ _ _ _=>by kernel_rfl
def j55 (a:qL) (b:qL) (d:Bool->Res):Res:=bif ((nI (List.length a)) != (nI (List.length b))) then d false else jbj a b Z1Y 0 (λ_=>d true) (λ_=>d false)
def jcb:Sig Unit:=sg [.look y0 false,.look y0 false] [false] [(y0,none),(y0,none)] [] λb f k=>j55 b.1 b.2.1 (λd=>k [wB d] [] [])
theorem jh2:SO 97 jcb:=fK (np:=0) Za2 [jaO] (oI 58 0 @jfX oN) false Tryz.func97 λ_ _ _ _=>by kernel_rfl
end
end Go.PI.G
namespace Go.PI.G
noncomputable section
open Go Go.PI Go.Proofs
open Go.Code (pl pr)
def j7n (a:qG) (left:Int) (b:Int->Res):Res:=bif decide ((Z9x (left-(nI (ByteArray.size a.2.1))))<0) then b (-1) else j7X a.2.2.1 (Z9x (left-(nI (ByteArray.size a.2.1)))) λr=>bif decide (r<0) then b (-1) else j56 a.2.2.2.1 r λd=>bif decide (d<0) then b (-1) else bif decide ((Z9x (d-(nI (ByteArray.size a.2.2.2.2.1))))<0) then b (-1) else bif decide ((Z9x ((Z9x (d-(nI (ByteArray.size a.2.2.2.2.1))))-(nI (ByteArray.size a.2.2.2.2.2))))<0) then b (-1) else b (Z9x ((Z9x (d-(nI (ByteArray.size a.2.2.2.2.1))))-(nI (ByteArray.size a.2.2.2.2.2))))
def jgd:Sig Unit:=sg [.look y13 true,.look tI false] [false] [(y13,none),(tI,none)] [] λb f k=>j7n b.1 b.2.1 (λd=>k [wI d] [] [])
theorem jla:SO 185 jgd:=fK (np:=0) (Z9H jh3 (Z9H jkh Za2)) [] oN false Tryz.func185 λ_ _ _ _=>by delta j7n jf9 jcc;refine gz j7X λ_ b=>gz j56 λ_ d=> ?_;rewrite [<-b,<-d];kernel_rfl
def j7o (a:qG) (b:qG->Res):Res:=j80 a.2.2.1 λr=>j57 a.2.2.2.1 λd=>b (a.1,a.2.1,r,d,a.2.2.2.2.1,a.2.2.2.2.2)
def jgf:Sig Unit:=sg [.borrow y13 true] [true] [(y13,none)] [] λd f k=>j7o d.1 (λb=>k [⟨y13,true,b,[.O,.O]⟩] [] [])
theorem jlc:SO 194 jgf:=fK (np:=0) (Z9H jh4 (Z9H jkk Za2)) [] oN false Tryz.func194 λ_ _ _ _=>by delta j7o jfc jcd;refine gz j80 λ_ b=>gz j57 λ_ d=> ?_;rewrite [<-b,<-d];kernel_rfl
def j7m (a:qG) (b:qG) (d:Bool->Res):Res:=bif (a.1 != b.1) then d false else bif sNe a.2.1 b.2.1 then d false else j7U a.2.2.1 b.2.2.1 λr=>bif !r then d false else j55 a.2.2.2.1 b.2.2.2.1 λf=>bif !f then d false else bif sNe a.2.2.2.2.1 b.2.2.2.2.1 then d false else bif sNe a.2.2.2.2.2 b.2.2.2.2.2 then d false else d true
def jgb:Sig Unit:=sg [.look y13 true,.look y13 true] [false] [(y13,none),(y13,none)] [] λb f k=>j7m b.1 b.2.1 (λd=>k [wB d] [] [])
theorem jl8:SO 200 jgb:=fK (np:=0) (Z9H jh2 (Z9H jke Za2)) [] oN false Tryz.func200 λ_ _ _ _=>by delta j7m jf6 jcb;refine gz j7U λ_ b=>gz j55 λ_ d=> ?_;rewrite [<-b,<-d];kernel_rfl
end
end Go.PI.G
namespace Go.PI.G
noncomputable section
open Go Go.PI Go.Proofs
open Go.Code (pl pr)
def j3m (a:List qV) (left:Int) (i:Int) (rec:Int->Int->Res) (b:Int->Res) (d:Unit->Res):Res:=bif decide (i<(nI (List.length a))) then bif inb i (List.length a) then j9b (nth (0,0,eS) a i) left λr=>bif decide (r<0) then d () else rec r (Z9x (i+1)) else none else b left
def jc4 (a:List qV):(Int×Int)->(Int×Int->Res)->((Int->Res)×(Unit->Res))->Res:=λv rec q=>j3m a v.1 v.2 (λleft i=>rec (left,i)) q.1 q.2
def ja9 (a:List qV) (n:Nat) (left:Int) (i:Int) (b:Int->Res) (d:Unit->Res):Res:=Z1N (jc4 a) n (left,i) (b,d)
def jd5:Z1q Unit:=NdL 27 27 [.R 0 y3 .S,.I 1,.I 5] [] (λd f=>(d.2.1,d.2.2.1)) (λd v=>(d.1,v.1,v.2,())) (λf v=>()) (λd f=>jc4 d.1) λd f g=>((λb=>g (.exit 0) [(1,vI b)] []),(λ_=>g .ret [(4,vI (-1))] []))
theorem jin:CN 0 122 Tryz.f37 jd5:=lK (Z9H jbJ Za2) [] oN ([],[]) [(0,[1],[])] ([4],[]) λ_ _ _ _ _=>by kernel_rfl
def j6g (a:List qV) (left:Int) (d:Int->Res):Res:=bif decide ((Z9x (left-(nI (List.length a))))<0) then d (-1) else ja9 a Z1Y (Z9x (left-(nI (List.length a)))) 0 (λb=>d b) (λ_=>d (-1))
def jfb:Sig Unit:=sg [.look y3 false,.look tI false] [false] [(y3,none),(tI,none)] [] λb f k=>j6g b.1 b.2.1 (λd=>k [wI d] [] [])
theorem jeY:SO 37 jfb:=fK (np:=0) (Z9H jbJ Za2) [jd5] (oI 122 0 @jin oN) false Tryz.func37 λ_ _ _ _=>by kernel_rfl
def j3p (a:List qV) (b:List qV) (i:Int) (rec:qW->Int->Res) (d:qW->Res):Res:=bif decide (i<(nI (List.length a))) then bif inb i (List.length a) then j9d (nth (0,0,eS) a i) λr=>bif inb i (List.length b) then rec (upd b i r) (Z9x (i+1)) else none else none else d b
def j8o (a:List qV):(qW×Int)->(qW×Int->Res)->((qW->Res))->Res:=λv rec q=>j3p a v.1 v.2 (λb i=>rec (b,i)) q
def jjb (a:List qV) (n:Nat) (b:List qV) (i:Int) (d:qW->Res):Res:=Z1N (j8o a) n (b,i) (d)
def jd8:Z1q Unit:=NdL 23 23 [.R 0 y3 .S,.R 3 y3 .O,.I 4] [] (λb f=>(b.2.1,b.2.2.1)) (λb v=>(b.1,v.1,v.2,())) (λf v=>()) (λb f=>j8o b.1) λb f g=>((λd=>g (.exit 0) [(3,v1 y3 d .O)] []))
theorem jiq:CN 0 58 Tryz.f39 jd8:=lK (Z9H jbK Za2) [] oN ([],[]) [(0,[3],[])] ([],[]) λ_ _ _ _ _=>by kernel_rfl
def j6h (a:List qV) (d:qW->Res):Res:=bif Z9w (nI (List.length a)) (nI (List.length a)) then jjb a Z1Y (Z97 (nI (List.length a)) (0,0,eS)) 0 λb=>d b else none
def jfe:Sig Unit:=sg [.borrow y3 false] [false] [(y3,none)] [] λd f k=>j6h d.1 (λb=>k [w1 y3 b .O] [] [])
theorem jeZ:SO 39 jfe:=fK (np:=0) (Z9H jbK Za2) [jd8] (oI 58 0 @jiq oN) false Tryz.func39 λ_ _ _ _=>by kernel_rfl
def j3j (a:List qV) (b:List qV) (i:Int) (rec:Int->Res) (d:Unit->Res) (f:Unit->Res):Res:=bif decide (i<(nI (List.length a))) then bif inb i (List.length a) then bif inb i (List.length b) then j99 (nth (0,0,eS) a i) (nth (0,0,eS) b i) λr=>bif !r then f () else rec (Z9x (i+1)) else none else none else d ()
def jc1 (a:List qV) (b:List qV):Int->(Int->Res)->((Unit->Res)×(Unit->Res))->Res:=λv rec q=>j3j a b v (λi=>rec (i)) q.1 q.2
def je3 (a:List qV) (b:List qV) (n:Nat) (i:Int) (d:Unit->Res) (f:Unit->Res):Res:=Z1N (jc1 a b) n (i) (d,f)
def jd2:Z1q Unit:=NdL 27 27 [.R 0 y3 .S,.R 1 y3 .S,.I 5] [] (λb d=>(b.2.2.1)) (λb v=>(b.1,b.2.1,v,())) (λd v=>()) (λb d=>jc1 b.1 b.2.1) λb d f=>((λ_=>f (.exit 0) [] []),(λ_=>f .ret [(4,vB false)] []))
theorem jik:CN 0 58 Tryz.f41 jd2:=lK (Z9H jbI Za2) [] oN ([],[]) [(0,[],[])] ([4],[]) λ_ _ _ _ _=>by kernel_rfl
def j6f (a:List qV) (b:List qV) (d:Bool->Res):Res:=bif ((nI (List.length a)) != (nI (List.length b))) then d false else je3 a b Z1Y 0 (λ_=>d true) (λ_=>d false)
def jf8:Sig Unit:=sg [.look y3 false,.look y3 false] [false] [(y3,none),(y3,none)] [] λb f k=>j6f b.1 b.2.1 (λd=>k [wB d] [] [])
theorem jeX:SO 41 jf8:=fK (np:=0) (Z9H jbI Za2) [jd2] (oI 58 0 @jik oN) false Tryz.func41 λ_ _ _ _=>by kernel_rfl
end
end Go.PI.G
namespace Go.PI.G
noncomputable section
open Go Go.PI Go.Proofs
open Go.Code (pl pr)
def j9a (a:List qV) (left:Int) (b:Int->Res):Res:=j6g a left λr=>bif decide (r<0) then b (-1) else b r
def jge:Sig Unit:=sg [.look y3 true,.look tI false] [false] [(y3,none),(tI,none)] [] λb f k=>j9a b.1 b.2.1 (λd=>k [wI d] [] [])
theorem jlb:SO 184 jge:=fK (np:=0) (Z9H jeY Za2) [] oN false Tryz.func184 λ_ _ _ _=>by kernel_rfl
def j9c (a:List qV) (b:qW->Res):Res:=j6h a λr=>b r
def jgg:Sig Unit:=sg [.borrow y3 true] [true] [(y3,none)] [] λd f k=>j9c d.1 (λb=>k [⟨y3,true,b,[.O]⟩] [] [])
theorem jld:SO 193 jgg:=fK (np:=0) (Z9H jeZ Za2) [] oN false Tryz.func193 λ_ _ _ _=>by kernel_rfl
def j98 (a:List qV) (b:List qV) (d:Bool->Res):Res:=j6f a b λr=>bif !r then d false else d true
def jgc:Sig Unit:=sg [.look y3 true,.look y3 true] [false] [(y3,none),(y3,none)] [] λb f k=>j98 b.1 b.2.1 (λd=>k [wB d] [] [])
theorem jl9:SO 50 jgc:=fK (np:=0) (Z9H jeX Za2) [] oN false Tryz.func50 λ_ _ _ _=>by kernel_rfl
end
end Go.PI.G
namespace Go.PI.G
noncomputable section
open Go Go.PI Go.Proofs
open Go.Code (pl pr)
def j7Z (a:qS) (left:Int) (b:Int->Res):Res:=bif decide ((Z9x (left-(nI (ByteArray.size a.2.1))))<0) then b (-1) else j6g a.2.2.1 (Z9x (left-(nI (ByteArray.size a.2.1)))) λr=>bif decide (r<0) then b (-1) else j9a a.2.2.2.1 r λd=>bif decide (d<0) then b (-1) else j7n a.2.2.2.2 d λf=>bif decide (f<0) then b (-1) else b f
def jkR:Sig Unit:=sg [.look y17 true,.look tI false] [false] [(y17,none),(tI,none)] [] λb f k=>j7Z b.1 b.2.1 (λd=>k [wI d] [] [])
theorem jkj:SO 132 jkR:=fK (np:=0) (Z9H jeY (Z9H jlb (Z9H jla Za2))) [] oN false Tryz.func132 λ_ _ _ _=>by delta j7Z jfb jge jgd;refine gz j6g λ_ b=>gz j9a λ_ d=>gz j7n λ_ f=> ?_;rewrite [<-b,<-d,<-f];kernel_rfl
def j81 (a:qS) (b:qS->Res):Res:=j6h a.2.2.1 λr=>j9c a.2.2.2.1 λd=>j7o a.2.2.2.2 λf=>b (a.1,a.2.1,r,d,f)
def jkS:Sig Unit:=sg [.borrow y17 true] [true] [(y17,none)] [] λd f k=>j81 d.1 (λb=>k [⟨y17,true,b,[.O,.O,.O,.O]⟩] [] [])
theorem jkm:SO 137 jkS:=fK (np:=0) (Z9H jeZ (Z9H jld (Z9H jlc Za2))) [] oN false Tryz.func137 λ_ _ _ _=>by delta j81 jfe jgg jgf;refine gz j6h λ_ b=>gz j9c λ_ d=>gz j7o λ_ f=> ?_;rewrite [<-b,<-d,<-f];kernel_rfl
def j7W (a:qS) (b:qS) (d:Bool->Res):Res:=bif (a.1 != b.1) then d false else bif sNe a.2.1 b.2.1 then d false else j6f a.2.2.1 b.2.2.1 λr=>bif !r then d false else j98 a.2.2.2.1 b.2.2.2.1 λf=>bif !f then d false else j7m a.2.2.2.2 b.2.2.2.2 λg=>bif !g then d false else d true
def jkQ:Sig Unit:=sg [.look y17 true,.look y17 true] [false] [(y17,none),(y17,none)] [] λb f k=>j7W b.1 b.2.1 (λd=>k [wB d] [] [])
theorem jkg:SO 140 jkQ:=fK (np:=0) (Z9H jeX (Z9H jl9 (Z9H jl8 Za2))) [] oN false Tryz.func140 λ_ _ _ _=>by delta j7W jf8 jgc jgb;refine gz j6f λ_ b=>gz j98 λ_ d=>gz j7m λ_ f=> ?_;rewrite [<-b,<-d,<-f];kernel_rfl
end
end Go.PI.G
namespace Go.PI.G
noncomputable section
open Go Go.PI Go.Proofs
open Go.Code (pl pr)
def jbt (a:Int×Int×qS) (left:Int) (b:Int->Res):Res:=j7Z a.2.2 left λr=>bif decide (r<0) then b (-1) else b r
def jm0:Sig Unit:=sg [.look y19 true,.look tI false] [false] [(y19,none),(tI,none)] [] λb f k=>jbt b.1 b.2.1 (λd=>k [wI d] [] [])
theorem jfF:SO 75 jm0:=fK (np:=0) (Z9H jkj Za2) [] oN false Tryz.func75 λ_ _ _ _=>by kernel_rfl
def jbv (a:Int×Int×qS) (b:qP->Res):Res:=j81 a.2.2 λr=>b (a.1,a.2.1,r)
def jm3:Sig Unit:=sg [.borrow y19 true] [true] [(y19,none)] [] λd f k=>jbv d.1 (λb=>k [⟨y19,true,b,[.O,.O,.O,.O]⟩] [] [])
theorem jfH:SO 77 jm3:=fK (np:=0) (Z9H jkm Za2) [] oN false Tryz.func77 λ_ _ _ _=>by kernel_rfl
def jbr (a:Int×Int×qS) (b:Int×Int×qS) (d:Bool->Res):Res:=bif (a.1 != b.1) then d false else bif (a.2.1 != b.2.1) then d false else j7W a.2.2 b.2.2 λr=>bif !r then d false else d true
def jlX:Sig Unit:=sg [.look y19 true,.look y19 true] [false] [(y19,none),(y19,none)] [] λb f k=>jbr b.1 b.2.1 (λd=>k [wB d] [] [])
theorem jfD:SO 79 jlX:=fK (np:=0) (Z9H jkg Za2) [] oN false Tryz.func79 λ_ _ _ _=>by kernel_rfl
end
end Go.PI.G
namespace Go.PI.G
noncomputable section
open Go Go.PI Go.Proofs
open Go.Code (pl pr)
def j3l (a:List qP) (left:Int) (i:Int) (rec:Int->Int->Res) (b:Int->Res) (d:Unit->Res):Res:=bif decide (i<(nI (List.length a))) then bif inb i (List.length a) then jbt (nth (0,0,0,eS,[],[],0,eS,[],[],eS,eS) a i) left λr=>bif decide (r<0) then d () else rec r (Z9x (i+1)) else none else b left
def jc3 (a:List qP):(Int×Int)->(Int×Int->Res)->((Int->Res)×(Unit->Res))->Res:=λv rec q=>j3l a v.1 v.2 (λleft i=>rec (left,i)) q.1 q.2
def ja8 (a:List qP) (n:Nat) (left:Int) (i:Int) (b:Int->Res) (d:Unit->Res):Res:=Z1N (jc3 a) n (left,i) (b,d)
def jd4:Z1q Unit:=NdL 27 27 [.R 0 y20 .S,.I 1,.I 5] [] (λd f=>(d.2.1,d.2.2.1)) (λd v=>(d.1,v.1,v.2,())) (λf v=>()) (λd f=>jc3 d.1) λd f g=>((λb=>g (.exit 0) [(1,vI b)] []),(λ_=>g .ret [(4,vI (-1))] []))
theorem jim:CN 0 122 Tryz.f26 jd4:=lK (Z9H jfF Za2) [] oN ([],[]) [(0,[1],[])] ([4],[]) λ_ _ _ _ _=>by kernel_rfl
def j7Y (a:List qP) (left:Int) (d:Int->Res):Res:=bif decide ((Z9x (left-(nI (List.length a))))<0) then d (-1) else ja8 a Z1Y (Z9x (left-(nI (List.length a)))) 0 (λb=>d b) (λ_=>d (-1))
def jfa:Sig Unit:=sg [.look y20 false,.look tI false] [false] [(y20,none),(tI,none)] [] λb f k=>j7Y b.1 b.2.1 (λd=>k [wI d] [] [])
theorem jki:SO 26 jfa:=fK (np:=0) (Z9H jfF Za2) [jd4] (oI 122 0 @jim oN) false Tryz.func26 λ_ _ _ _=>by kernel_rfl
def j3o (a:List qP) (b:List qP) (i:Int) (rec:(List qP)->Int->Res) (d:(List qP)->Res):Res:=bif decide (i<(nI (List.length a))) then bif inb i (List.length a) then jbv (nth (0,0,0,eS,[],[],0,eS,[],[],eS,eS) a i) λr=>bif inb i (List.length b) then rec (upd b i r) (Z9x (i+1)) else none else none else d b
def j8n (a:List qP):((List qP)×Int)->((List qP)×Int->Res)->(((List qP)->Res))->Res:=λv rec q=>j3o a v.1 v.2 (λb i=>rec (b,i)) q
def jja (a:List qP) (n:Nat) (b:List qP) (i:Int) (d:(List qP)->Res):Res:=Z1N (j8n a) n (b,i) (d)
def jd7:Z1q Unit:=NdL 23 23 [.R 0 y20 .S,.R 3 y20 .O,.I 4] [] (λb f=>(b.2.1,b.2.2.1)) (λb v=>(b.1,v.1,v.2,())) (λf v=>()) (λb f=>j8n b.1) λb f g=>((λd=>g (.exit 0) [(3,v1 y20 d .O)] []))
theorem jip:CN 0 58 Tryz.f28 jd7:=lK (Z9H jfH Za2) [] oN ([],[]) [(0,[3],[])] ([],[]) λ_ _ _ _ _=>by kernel_rfl
def j4v (a:List qP) (d:(List qP)->Res):Res:=bif Z9w (nI (List.length a)) (nI (List.length a)) then jja a Z1Y (Z97 (nI (List.length a)) (0,0,0,eS,[],[],0,eS,[],[],eS,eS)) 0 λb=>d b else none
def jfd:Sig Unit:=sg [.borrow y20 false] [false] [(y20,none)] [] λd f k=>j4v d.1 (λb=>k [w1 y20 b .O] [] [])
theorem jkl:SO 28 jfd:=fK (np:=0) (Z9H jfH Za2) [jd7] (oI 58 0 @jip oN) false Tryz.func28 λ_ _ _ _=>by kernel_rfl
def j3i (a:List qP) (b:List qP) (i:Int) (rec:Int->Res) (d:Unit->Res) (f:Unit->Res):Res:=bif decide (i<(nI (List.length a))) then bif inb i (List.length a) then bif inb i (List.length b) then jbr (nth (0,0,0,eS,[],[],0,eS,[],[],eS,eS) a i) (nth (0,0,0,eS,[],[],0,eS,[],[],eS,eS) b i) λr=>bif !r then f () else rec (Z9x (i+1)) else none else none else d ()
def jc0 (a:List qP) (b:List qP):Int->(Int->Res)->((Unit->Res)×(Unit->Res))->Res:=λv rec q=>j3i a b v (λi=>rec (i)) q.1 q.2
def je2 (a:List qP) (b:List qP) (n:Nat) (i:Int) (d:Unit->Res) (f:Unit->Res):Res:=Z1N (jc0 a b) n (i) (d,f)
def jd1:Z1q Unit:=NdL 27 27 [.R 0 y20 .S,.R 1 y20 .S,.I 5] [] (λb d=>(b.2.2.1)) (λb v=>(b.1,b.2.1,v,())) (λd v=>()) (λb d=>jc0 b.1 b.2.1) λb d f=>((λ_=>f (.exit 0) [] []),(λ_=>f .ret [(4,vB false)] []))
theorem jij:CN 0 58 Tryz.f30 jd1:=lK (Z9H jfD Za2) [] oN ([],[]) [(0,[],[])] ([4],[]) λ_ _ _ _ _=>by kernel_rfl
def j7V (a:List qP) (b:List qP) (d:Bool->Res):Res:=bif ((nI (List.length a)) != (nI (List.length b))) then d false else je2 a b Z1Y 0 (λ_=>d true) (λ_=>d false)
def jf7:Sig Unit:=sg [.look y20 false,.look y20 false] [false] [(y20,none),(y20,none)] [] λb f k=>j7V b.1 b.2.1 (λd=>k [wB d] [] [])
theorem jkf:SO 30 jf7:=fK (np:=0) (Z9H jfD Za2) [jd1] (oI 58 0 @jij oN) false Tryz.func30 λ_ _ _ _=>by kernel_rfl
end
end Go.PI.G
namespace Go.PI.G
open Go Go.PI Go.Proofs
open Go.Code (pl pr)
noncomputable def j3g (d:List qP) (b:Int) (f:Bool->Res):Res:=j7Y d 1048576 λr=>bif decide (r<0) then f true else j4v d λh=>jaL h b λi=>j4v d λg=>jaG g b λj=>bif (j != i) then f false else j4v d λk=>j7V g k λl=>bif !l then f false else f true
noncomputable def j25:Sig Unit:=⟨[.borrow y20 false,.borrow tI false],[false],λvals ext k=>av vals y20 λd vals=>av vals tI λb vals=>nl vals<|nl ext<|j3g d b (λf=>k [wB f] [] [])⟩
theorem jfB:Z1d Tryz.prog 4 j25:=jpo (np:=0) follows j2m (Z9H jki (Z9H jms (Z9H jkl (Z9H jmm (Z9H jkf Za2))))) [] oN false Tryz.func4 λ_ _ k _ h=>aV h λ_ _ _ _ _ h=>aV h λ_ _ _ _ _ h=>nL h λ_ h=>nL h λ_ h=>by subst_vars;exact .trans (by delta j3g jfa jfd jgS jgQ jf7;refine gz j7Y λ_ b=>gz j4v λ_ d=>gz jaL λ_ f=>gz jaG λ_ g=>gz j7V λ_ i=> ?_;rewrite [<-b,<-d,<-f,<-g,<-i];kernel_rfl) h
end Go.PI.G
namespace Go.PI.G
open Go Go.PI
abbrev V:=Int×Int×ByteArray
theorem jaD (s:ByteArray):(Z1k s).length=s.size:=by unfold Z1k;simp
theorem j09 (a b:ByteArray):sEq a b=true↔a=b:=by
 unfold sEq
 rw [beq_iff_eq]
 constructor
 ·intro h
  rw [ByteArray.ext_iff]
  have d:a.toList=a.data.toList:=by rw [ByteArray.toList_eq]
  have f:b.toList=b.data.toList:=by rw [ByteArray.toList_eq]
  rw [d,f] at h
  exact Array.toList_inj.1 h
 ·rintro rfl;rfl
def jlP (n:Int):Bool:=decide (-1099511627775<=n/\n<=1099511627775)
def j0l (v:V):Bool:=
 bif v.1==0 then (v.2.1==0)&&sEq v.2.2 eS
 else bif v.1==1 then ((v.2.1==0)||(v.2.1==1))&&sEq v.2.2 eS
 else bif v.1==2 then jlP v.2.1&&sEq v.2.2 eS
 else bif v.1==3 then (v.2.1==0)&&decide (nI v.2.2.size<=30)
 else false
theorem jo9 (x:Int):decide (0<=x/\x<=1)=((x==0)||(x==1)):=by
 by_cases h:0<=x/\x<=1
 ·rw [decide_eq_true h]
  have:x=0\/x=1:=by omega
  rcases this with rfl | rfl<;>rfl
 ·rw [decide_eq_false h]
  have b:(x==0)=false:=by simp;omega
  have d:(x==1)=false:=by simp;omega
  rw [b,d];rfl
theorem jeJ {v:V} (h:j0l v=true):v=(0,0,eS)\/(∃ n,(n=0\/n=1)/\v=(1,n,eS))\/(∃ n,(-1099511627775<=n/\n<=1099511627775)/\v=(2,n,eS))\/∃ s:ByteArray,s.size<=30/\v=(3,0,s):=by
 obtain ⟨t,n,s⟩:=v
 unfold j0l at h
 simp only at h
 cases d:t==0
 ·cases f:t==1
  ·cases g:t==2
   ·cases i:t==3
    ·rw [d,f,g,i] at h;cases h
    ·rw [d,f,g,i] at h
     simp only [cond_false,cond_true,Bool.and_eq_true,beq_iff_eq,decide_eq_true_eq] at h i
     obtain ⟨rfl,h⟩:=h
     subst i
     exact .inr (.inr (.inr ⟨s,by unfold nI at h;omega,rfl⟩))
   ·rw [d,f,g] at h
    simp only [cond_false,cond_true,Bool.and_eq_true,beq_iff_eq] at h g
    obtain ⟨h,b⟩:=h
    rw [j09] at b
    subst b;subst g
    exact .inr (.inr (.inl ⟨n,of_decide_eq_true h,rfl⟩))
  ·rw [d,f] at h
   simp only [cond_false,cond_true,Bool.and_eq_true,Bool.or_eq_true,beq_iff_eq] at h f
   obtain ⟨h,b⟩:=h
   rw [j09] at b
   subst b;subst f
   exact .inr (.inl ⟨n,h,rfl⟩)
 ·rw [d] at h
  simp only [cond_true,Bool.and_eq_true,beq_iff_eq] at h d
  obtain ⟨h,b⟩:=h
  rw [j09] at b
  subst b;subst d;subst h
  exact .inl rfl
theorem jor {v:V} (h:j0l v=true):v.2.2.size<=30:=by
 rcases jeJ h with rfl | ⟨n,_,rfl⟩ | ⟨n,_,rfl⟩ | ⟨s,b,rfl⟩
 ·show (0:Nat)<=30;omega
 ·show (0:Nat)<=30;omega
 ·show (0:Nat)<=30;omega
 ·exact b
def be (n:Nat):Nat->List Int
 | 0=>[]
 | s+1=>((n / 256 ^ s % 256:Nat):Int)::be n s
theorem jnI (n:Nat):(s:Nat)->(be n s).length=s
 | 0=>rfl
 | s+1=>by simp [be,jnI n s]
noncomputable def wB (v:V):List Int:=
 bif v.1==1 then [1,v.2.1]
 else bif v.1==2 then 2::(bif decide (v.2.1<0) then 1 else 0)::be v.2.1.natAbs 6
 else bif v.1==3 then 3::nI v.2.2.size::Z1k v.2.2
 else [0]
theorem jpW {v:V} (h:j0l v=true):(wB v).length<=32:=by
 rcases jeJ h with rfl | ⟨n,_,rfl⟩ | ⟨n,_,rfl⟩ | ⟨s,b,rfl⟩
 ·show (1:Nat)<=32;omega
 ·show (2:Nat)<=32;omega
 ·show (2::(bif decide (n<0) then 1 else 0)::be n.natAbs 6).length<=32
  simp [jnI]
 ·show (3::nI s.size::Z1k s).length<=32
  simp [jaD];omega
theorem ja0:(l:List V)->(∀ v∈l,j0l v=true)->(l.flatMap wB).length<=32 * l.length
 | [],_=>by simp
 | v::l,h=>by
  have d:=jpW (h v (by simp))
  have f:=ja0 l λv b=>h v (List.mem_cons_of_mem _ b)
  simp only [List.flatMap_cons,List.length_append,List.length_cons]
  omega
end Go.PI.G
set_option linter.unusedSimpArgs false
namespace Go.PI.G
open Go Go.PI Go.Proofs
theorem j4r (x b d:Int) (k:Bool->Res):j0a x b d k=k (decide (b<=x/\x<=d)):=by
 unfold j0a
 by_cases h:x>=b
 ·rw [decide_eq_true h,cond_true]
  congr 1
  exact decide_eq_decide.2 (by omega)
 ·rw [decide_eq_false h,cond_false]
  congr 1
  exact (decide_eq_false (by omega)).symm
end Go.PI.G
namespace Go.PI.G
open Go Go.PI Go.Proofs
theorem jo4 (n:Int) (k:Bool->Res):jdy n k=k (jlP n):=j4r n _ _ k
theorem j7r (v:V) (k:Bool->Res):j18 v k=k (j0l v):=by
 unfold j18 j0l
 cases v.1==0
 ·cases v.1==1
  ·cases v.1==2
   ·cases v.1==3
    ·rfl
    ·cases v.2.1==0<;>rfl
   ·rw [cond_false,cond_false,cond_true,jo4]
    cases jlP v.2.1<;>rfl
  ·cases v.2.1==0
   ·cases v.2.1==1<;>rfl
   ·rfl
 ·cases v.2.1==0<;>rfl
theorem j7g (v:V) (k:Bool->Res):j0U v k=k (j0l v):=by
 unfold j0U j0l
 simp only [j4r,jo9]
 cases v.1==0
 ·cases v.1==1
  ·cases v.1==2
   ·cases v.1==3
    ·rfl
    ·cases v.2.1==0<;>rfl
   ·rw [cond_false,cond_false,cond_true,cond_false,cond_false,cond_true]
    show (bif jlP v.2.1 then _ else _)=_
    cases jlP v.2.1<;>rfl
  ·cases v.2.1==0
   ·cases v.2.1==1<;>rfl
   ·rfl
 ·cases v.2.1==0<;>rfl
end Go.PI.G
namespace Go.PI.G
noncomputable section
open Go Go.PI
def msr:(τ:Ty)->El τ->Nat
 | .str,s=>ByteArray.size s
 | .slice e,l=>List.length (α:=El e) l+(List.map (msr e) l).sum
 | .pair a b,x=>msr a x.1+msr b x.2
 | .int _,_=>0
 | .bool,_=>0
 | .unit,_=>0
def wgt:(τ:Ty)->El τ->Nat
 | .str,_=>1
 | .slice e,l=>(List.map (wgt e) l).sum
 | .pair a b,x=>wgt a x.1+wgt b x.2
 | .int _,_=>1
 | .bool,_=>1
 | .unit,_=>0
theorem j8S {a b:Ty} {x:El (.pair a b)}:msr a x.1<=msr (.pair a b) x:=Nat.le_add_right _ _
theorem j07 {a b:Ty} {x:El (.pair a b)}:msr b x.2<=msr (.pair a b) x:=Nat.le_add_left _ _
def dgt (x:Int):ByteArray:=Z3y [wu8 (Z9x (48+x))]
def jpS (n:Nat):ByteArray:=if h:n<10 then dgt n else jpS (n / 10)++dgt ((n % 10:Nat):Int)
termination_by n
decreasing_by omega
def mT (k:Int):ByteArray:=(⟨#[109]⟩:ByteArray)++jpS k.toNat
def mk:(τ:Ty)->El τ->Int->El τ
 | .str,_,k=>mT k
 | .slice e,l,k=>mkL (wgt e) (mk e) l k
 | .pair a b,x,k=>(mk a x.1 k,mk b x.2 (k+(wgt a x.1:Int)))
 | .int .u8,_,k=>wu8 k
 | .int _,_,k=>k
 | .bool,_,k=>(Int.tmod k 3==0)
 | .unit,x,_=>x
theorem jjT (e:Ty) (l:List (El e)):msr (.slice e) l=l.length+(l.map (msr e)).sum:=rfl
theorem j0M {e:Ty} {l:List (El e)} {n:Nat} (h:msr (.slice e) l<=n):l.length<=n:=by
 have:msr (.slice e) l=l.length+(l.map (msr e)).sum:=rfl
 omega
theorem j1R {e:Ty} {l:List (El e)} {n:Nat} (h:msr (.slice e) l<=n) {x:El e} (b:x∈l):msr e x<=n:=by
 have d:msr (.slice e) l=l.length+(l.map (msr e)).sum:=rfl
 have:=Z9v (msr e) l x b
 omega
end
end Go.PI.G
namespace Go.PI.G
open Go Go.PI
theorem jpd {left:Int} (h:0<=left):szR left 0=left:=by unfold szR;rw [if_pos (by omega)];omega
theorem jiO {left:Int} {n rest:Nat} {F:Int->Res} {k:Int->Res} (f:0<=left) (g:left<=1048576) (d:n<=maxLen) (b:(n:Int)<=left->F (left-n)=k (szR (left-n) rest)) :
  (bif decide (Z9x (left-nI n)<0) then k (-1) else F (Z9x (left-nI n)))=k (szR left (n+rest)):=by
 unfold maxLen at d
 rw [Zae (by unfold nI;omega) (by unfold nI;omega)]
 unfold nI
 by_cases h:(n:Int)<=left
 ·rw [Z9F (by omega),cond_false,b h,Z9U h]
 ·rw [Z9G (by omega),cond_true,Z9V h]
theorem jeg {left:Int} {k:Int->Res} (b:0<=left):k left=k (szR left 0):=by rw [jpd b]
theorem j00 {i n:Nat} (h:i<n):inb (i:Int) n=true:=Zah (by omega) (by omega)
theorem j01 {n:Int} (h: -9223372036854775808<=n/\n<9223372036854775808):Z9x n=n:=Zae h.1 h.2
end Go.PI.G
namespace Go.PI.G
noncomputable section
open Go Go.PI
abbrev C:=ByteArray×Int×Bool×Bool×V
abbrev T:=ByteArray×List C×List ByteArray
abbrev DB:=List T×List (List (List V))
abbrev yV:Ty:= .pair (.int .i64) (.pair (.int .i64) .str)
abbrev yC:Ty:= .pair .str (.pair (.int .i64) (.pair .bool (.pair .bool yV)))
abbrev yT:Ty:= .pair .str (.pair (.slice yC) (.slice .str))
abbrev yDB:Ty:= .pair (.slice yT) (.slice (.slice (.slice yV)))
abbrev zV:V:=(0,0,eS)
abbrev zC:C:=(eS,0,false,false,0,0,eS)
abbrev zT:T:=(eS,[],[])
theorem jbp {α:Type} (p:α->Bool) (l:List α): -1<=Z9t p l/\Z9t p l<(l.length:Int):=by
 unfold Z9t
 cases h:l.findIdx? p with
 | none=>simp only [];omega
 | some i=>
  have:=(List.findIdx?_eq_some_iff_findIdx_eq.1 h).1
  simp only [];omega
theorem jbm {α:Type} {f:Nat->α->Bool}:(l:List α)->(i:Nat)->Z6V f i l=false->∀ (j:Nat) (h:j<l.length),f (i+j) l[j]=false
 | [],_,_,j,h=>by simp at h
 | x::l,i,h,j,b=>by
  simp only [Z6V,Bool.or_eq_false_iff] at h
  cases j with
  | zero=>simpa using h.1
  | succ j=>
   have:=jbm l (i+1) h.2 j (by simpa using b)
   rw [show i+(j+1)=i+1+j by omega]
   simpa using this
def j0j (s:ByteArray):Bool:= !((Z1k s).any λb=>decide (b<97)||decide (b>122))&&(decide (1<=s.size)&&decide (s.size<=8))
def veq (a b:V):Bool:=(a.1==b.1)&&((a.2.1==b.2.1)&&sEq a.2.2 b.2.2)
theorem jeh (a b:V):veq a b=true↔a=b:=by
 obtain ⟨d,f,g⟩:=a
 obtain ⟨h,i,j⟩:=b
 unfold veq
 simp only [Bool.and_eq_true,beq_iff_eq,j09,Prod.mk.injEq]
def vlt (a b:V):Bool:=j0l a&&(j0l b&&(bif a.1 != b.1 then decide (a.1<b.1) else bif a.2.1 != b.2.1 then decide (a.2.1<b.2.1) else sLt a.2.2 b.2.2))
def jgt (v:V):Bool:=(v.1==0)&&((v.2.1==0)&&sEq v.2.2 eS)
def j0R (c:C):Bool:=j0j c.1&&(decide (1<=c.2.1/\c.2.1<=3)&&(j0l c.2.2.2.2&&(bif c.2.2.2.1 then (c.2.2.2.2.1==c.2.1)||((c.2.2.2.2.1==0)&& !c.2.2.1) else jgt c.2.2.2.2)))
def j02 (l:List C) (n:ByteArray):Int:=Z9t (λc=>sEq c.1 n) l
theorem j7S (l:List C) (n:ByteArray): -1<=j02 l n/\j02 l n<(l.length:Int):=jbp _ _
theorem joq:j0l (0,0,eS)=true:=by
 show (((0:Int)==0)&&sEq eS eS)=true
 rw [Z9R];rfl
theorem jnn:jgt (0,0,eS)=true:=by
 show (((0:Int)==0)&&(((0:Int)==0)&&sEq eS eS))=true
 rw [Z9R];rfl
def j12 (l:List C):Int->List ByteArray->Bool
 | _,[]=>true
 | b,k::ks=> !decide (j02 l k<=b)&&((nth zC l (j02 l k)).2.2.1&&j12 l (j02 l k) ks)
def j41 (l:List C):Bool:= !Z6V (λi c=> !j0R c||(j02 l c.1 != (i:Int))) 0 l
def j03 (t:T):Bool:=(j0j t.1&&(decide (1<=t.2.1.length)&&(decide (t.2.1.length<=8)&&decide (1<=t.2.2.length))))&&(j41 t.2.1&&j12 t.2.1 (-1) t.2.2)
def j04 (l:List T) (n:ByteArray):Int:=Z9t (λt=>sEq t.1 n) l
def j1N (c:List T):Bool:=decide (c.length<=6)&& !Z6V (λi t=> !j03 t||(decide (0<i)&&sGe (nth zT c ((i:Int)-1)).1 t.1)) 0 c
def j38 (c:C) (v:V):Bool:=j0l v&&((v.1==c.2.1)||((v.1==0)&& !c.2.2.1))
def j0k (l:List C) (r:List V):Bool:=decide (r.length=l.length)&& !Z6V (λi c=> !j38 c (nth zV r (i:Int))) 0 l
def j05 (t:T) (r:List V):List V:=t.2.2.map λk=>nth zV r (j02 t.2.1 k)
def klt:List V->List V->Bool
 | [],[]=>false
 | [],_::_=>true
 | _::_,[]=>false
 | x::xs,y::ys=>bif veq x y then klt xs ys else vlt x y
def j08 (t:T) (l:List (List V)):Bool:=j03 t&&(decide (l.length<=60)&& !Z6V (λi r=> !j0k t.2.1 r||(decide (0<i)&& !klt (j05 t (nth [] l ((i:Int)-1))) (j05 t r))) 0 l)
def dbB (d:DB):Bool:=j1N d.1&&(decide (d.2.length=d.1.length)&& !Z6V (λi t=> !j08 t (nth [] d.2 (i:Int))) 0 d.1)
theorem j1u {t:T} (h:j03 t=true):j0j t.1=true/\1<=t.2.1.length/\t.2.1.length<=8/\1<=t.2.2.length/\j41 t.2.1=true/\j12 t.2.1 (-1) t.2.2=true:=by
 unfold j03 at h
 simp only [Bool.and_eq_true,decide_eq_true_eq] at h
 exact ⟨h.1.1,h.1.2.1,h.1.2.2.1,h.1.2.2.2,h.2.1,h.2.2⟩
theorem j13 {l:List C}:(ks:List ByteArray)->(b:Int)-> -1<=b->j12 l b ks=true->∀ k∈ks,0<=j02 l k/\j02 l k<(l.length:Int)
 | [],_,_,_,k,d=>by cases d
 | q::ks,b,i,h,k,d=>by
  simp only [j12,Bool.and_eq_true,Bool.not_eq_true',decide_eq_false_iff_not] at h
  have f:=(jbp (λc:C=>sEq c.1 q) l).2
  have g:0<=j02 l q:=by omega
  rcases List.mem_cons.1 d with rfl | d
  ·exact ⟨g,f⟩
  ·exact j13 ks (j02 l q) (by omega) h.2.2 k d
theorem jpz {c:C} (h:j0R c=true):1<=c.2.1/\c.2.1<=3:=by
 unfold j0R at h
 simp only [Bool.and_eq_true,decide_eq_true_eq] at h
 exact h.2.1
theorem jjL {l:List C} (h:j41 l=true) (i:Nat) (b:i<l.length):j0R l[i]=true:=by
 unfold j41 at h
 have:=jbm l 0 (by simpa using h) i b
 simp only [Bool.or_eq_false_iff,Bool.not_eq_false'] at this
 exact this.1
end
end Go.PI.G
namespace Go.PI.G
open Go Go.PI Go.Proofs
theorem jnJ (s:ByteArray) (i:Nat) (h:i<(Z1k s).length):bt s (i:Int)=(Z1k s)[i]:=by
 have g:=jaD s
 have d:i<s.data.size:=by
  have:i<s.size:=by omega
  exact this
 have f:(Z1k s)[i]=((s.data.toList.map λb:UInt8=>(b.toNat:Int))[i]'(by simpa using d)):=rfl
 rw [f,List.getElem_map]
 unfold bt
 simp [Array.getElem?_eq_getElem d]
theorem jpl (s:ByteArray) (x:Bool) (k:Bool->Res):(bif x then k false else (bif decide ((nI (ByteArray.size s))>=1) then k (decide ((nI (ByteArray.size s))<=8)) else k false))=k (!x&&(decide (1<=s.size)&&decide (s.size<=8))):=by
 cases x
 ·unfold nI
  by_cases b:1<=s.size
  ·rw [cond_false,decide_eq_true (show (s.size:Int)>=1 by omega),cond_true,decide_eq_true b]
   congr 1
   by_cases d:s.size<=8
   ·rw [decide_eq_true (show (s.size:Int)<=8 by omega),decide_eq_true d];rfl
   ·rw [decide_eq_false (show ¬ (s.size:Int)<=8 by omega),decide_eq_false d];rfl
  ·rw [cond_false,decide_eq_false (show ¬ (s.size:Int)>=1 by omega),cond_false,decide_eq_false b];rfl
 ·rfl
theorem j4y (s:ByteArray) (h:s.size<=LIM) (k:Bool->Res):j0y s k=k (j0j s):=by
 unfold j0y jea
 have g:=jaD s
 have:=Z9D (Z1k s) (λi=>i) (λb=>decide (b<97)||decide (b>122)) (step:=j8v s) ((λ(_:Unit)=>bif decide ((nI (ByteArray.size s))>=1) then k (decide ((nI (ByteArray.size s))<=8)) else k false),(λ(_:Unit)=>k false)) (bif decide ((nI (ByteArray.size s))>=1) then k (decide ((nI (ByteArray.size s))<=8)) else k false) (k false) (by omega) (λi rec f=>by
  show j3x s _ _ _ _=_
  unfold j3x
  unfold LIM at h
  have d:i<s.size:=by omega
  rw [Zam d,cond_true,j00 d,cond_true,cond_true,jnJ s i f,j01 (n:=(i:Int)+1) (by omega)]
  cases decide ((Z1k s)[i]<97)
  ·cases decide ((Z1k s)[i]>122)<;>rfl
  ·rfl) (λrec=>by
  show j3x s _ _ _ _=_
  unfold j3x
  rw [g,Zal,cond_false])
 refine this.trans ?_
 exact jpl s _ k
theorem j4u (s:ByteArray) (h:s.size<=LIM) (k:Bool->Res):j0p s k=k (j0j s):=by
 unfold j0p ja4
 have j:=jaD s
 have:=Z9D (Z1k s) (λi=>i) (λb=>decide (b<97)||decide (b>122)) (step:=j5I s) ((λ(_:Unit)=>j0a (nI (ByteArray.size s)) 1 8 λ(r:Bool)=>k r),(λ(_:Unit)=>k false)) (j0a (nI (ByteArray.size s)) 1 8 λ(r:Bool)=>k r) (k false) (by omega) (λi rec g=>by
  show j3c s _ _ _ _=_
  unfold j3c
  unfold LIM at h
  have d:i<s.size:=by omega
  rw [Zam d,cond_true,j00 d,cond_true,cond_true,jnJ s i g,j01 (n:=(i:Int)+1) (by omega)]
  cases decide ((Z1k s)[i]<97)
  ·cases decide ((Z1k s)[i]>122)<;>rfl
  ·rfl) (λrec=>by
  show j3c s _ _ _ _=_
  unfold j3c
  rw [j,Zal,cond_false])
 refine this.trans ?_
 rw [j4r]
 have f:decide (1<=nI s.size/\nI s.size<=8)=(decide (1<=s.size)&&decide (s.size<=8)):=by
  rw [<-Bool.decide_and]
  exact decide_eq_decide.2 (by unfold nI;omega)
 rw [f]
 unfold j0j
 cases (Z1k s).any λb=>decide (b<97)||decide (b>122)<;>rfl
end Go.PI.G
namespace Go.PI.G
open Go Go.PI Go.Proofs
theorem jiI (c:C) (h:c.1.size<=LIM) (k:Bool->Res):j4j c k=k (j0R c):=by
 obtain ⟨n,ty,w,r,d⟩:=c
 unfold j4j j0R
 dsimp only at h ⊢
 rw [j4y n h,j7r]
 cases j0j n
 ·rfl
 ·rw [Bool.not_true,cond_false,Bool.true_and]
  by_cases p:1<=ty/\ty<=3
  ·rw [decide_eq_false (show ¬ ty<1 by omega),cond_false,decide_eq_false (show ¬ ty>3 by omega),cond_false,decide_eq_true p,Bool.true_and]
   cases r
   ·rw [Bool.not_false,cond_true,cond_false]
    have:j0l d=false->jgt d=false:=λj=>by
     cases i:jgt d with
     | false=>rfl
     | true=>
      unfold jgt at i
      simp only [Bool.and_eq_true,beq_iff_eq,j09] at i
      have:d=(0,0,eS):=by
       obtain ⟨a,b,c⟩:=d
       simp only at i
       rw [i.1,i.2.1,i.2.2]
      rw [this,joq] at j
      cases j
    cases j:j0l d
    ·rw [Bool.false_and]
     exact congrArg k (this j)
    ·rfl
   ·rw [Bool.not_true,cond_false,cond_true]
    cases j:j0l d
    ·rfl
    ·rw [cond_true,Bool.true_and]
     have g:(d.1==0)=true->((d.1==0)&&((d.2.1==0)&&sEq d.2.2 eS))=true:=λf=>by
      rcases jeJ j with rfl | ⟨m,_,rfl⟩ | ⟨m,_,rfl⟩ | ⟨m,_,rfl⟩
      ·exact jnn
      ·cases f
      ·cases f
      ·cases f
     cases f:d.1==0
     ·rw [Bool.false_and,cond_false]
      cases d.1==ty<;>rfl
     ·have:=g f
      rw [f] at this
      rw [this,cond_true,cond_true]
      have l:(d.1==ty)=false:=by
       simp only [beq_iff_eq] at f
       rw [f];simp;omega
      rw [l,Bool.false_or,Bool.true_and]
  ·rw [decide_eq_false p]
   by_cases q:ty<1
   ·rw [decide_eq_true q];rfl
   ·rw [decide_eq_false q,cond_false,decide_eq_true (show ty>3 by omega)];rfl
theorem ji5 (c:C) (h:c.1.size<=LIM) (k:Bool->Res):j44 c k=k (j0R c):=by
 obtain ⟨n,ty,f,d,b⟩:=c
 unfold j44 j0R
 dsimp only at h ⊢
 rw [j4u n h,j4r,j7g]
 cases j0j n
 ·rfl
 ·cases decide (1<=ty/\ty<=3)
  ·rfl
  ·cases j0l b
   ·rfl
   ·cases d
    ·rfl
    ·cases b.1==ty
     ·cases b.1==0<;>rfl
     ·rfl
theorem j5D (t:T) (n:ByteArray) (h:t.2.1.length<=LIM) (k:Int->Res):j0B t n k=k (j02 t.2.1 n):=by
 unfold j0B jfj
 refine Z9A t.2.1 (λi=>i) (λc=>sEq c.1 n) (step:=j9q n t.2.1 (nI t.2.1.length)) _ k h (λi rec b=> ?_) (λrec=> ?_)
 ·show j4i n _ _ _ _ _ _=_
  unfold j4i
  unfold LIM at h
  rw [Zam b,cond_true,j00 b,cond_true,Za7 _ _ _ b,j01 (n:=(i:Int)+1) (by omega)]
 ·show j4i n _ _ _ _ _ _=_
  unfold j4i
  rw [Zal,cond_false]
theorem j6N (t:T) (n:ByteArray) (h:t.2.1.length<=LIM) (k:Int->Res):j0f t n k=k (j02 t.2.1 n):=by
 unfold j0f j5M j7w
 refine Z9A t.2.1 (λi=>i) (λc=>sEq c.1 n) (step:=j2R t.2.1 n (nI t.2.1.length)) _ k h (λi rec b=> ?_) (λrec=> ?_)
 ·show j0J _ n _ _ _ _ _=_
  unfold j0J jdn
  unfold LIM at h
  rw [Zam b,cond_true,j00 b,cond_true,Za7 _ _ _ b,j01 (n:=(i:Int)+1) (by omega)]
 ·show j0J _ n _ _ _ _ _=_
  unfold j0J
  rw [Zal,cond_false]
theorem j2e {t:T} (h:msr yT t<=1048576):t.1.size<=1048576/\t.2.1.length<=1048576/\t.2.2.length<=1048576/\(∀ c∈t.2.1,c.1.size<=1048576)/\∀ x∈t.2.2,x.size<=1048576:=by
 have i:msr yT t=t.1.size+(msr (.slice yC) t.2.1+msr (.slice .str) t.2.2):=rfl
 have b:msr (.slice yC) t.2.1<=1048576:=by omega
 have d:msr (.slice .str) t.2.2<=1048576:=by omega
 refine ⟨by omega,j0M b,j0M d,λc f=> ?_,λx g=>j1R d g⟩
 have:=j1R b f
 have j:msr yC c=c.1.size+msr (.pair (.int .i64) (.pair .bool (.pair .bool yV))) c.2:=rfl
 omega
noncomputable def tSm (t:T):Prop:=t.1.size<=1048576/\t.2.1.length<=1048576/\t.2.2.length<=1048576/\(∀ c∈t.2.1,c.1.size<=1048576)/\∀ x∈t.2.2,x.size<=1048576
theorem jkV (t:T) (h:tSm t) (a b:Unit->Res):j6F t.2.1 (nI t.2.1.length) t Z1Y 0 a b=bif j41 t.2.1 then a () else b ():=by
 have f:=h
 obtain ⟨j,k,l,g,m⟩:=f
 unfold j6F
 have:=Z9y t.2.1 (λi=>i) (λi c=> !j0R c||(j02 t.2.1 c.1 != (i:Int))) (step:=j2G t.2.1 (nI t.2.1.length) t) (a,b) (a ()) (b ()) (by unfold LIM;omega) (λi rec d=>by
  show j1z _ _ t _ _ _ _=_
  unfold j1z
  rw [Zam d,cond_true,j00 d,cond_true,Za7 _ _ _ d,jiI _ (by have:=g _ (List.getElem_mem d);unfold LIM;omega),j5D t _ (by unfold LIM;omega),j01 (n:=(i:Int)+1) (by omega)]
  cases j0R t.2.1[i]
  ·rfl
  ·cases j02 t.2.1 t.2.1[i].1 != (i:Int)<;>rfl) (λrec=>by
  show j1z _ _ t _ _ _ _=_
  unfold j1z
  rw [Zal,cond_false])
 refine this.trans ?_
 unfold j41
 cases Z6V (λi c=> !j0R c||(j02 t.2.1 c.1 != (i:Int))) 0 t.2.1<;>rfl
theorem jku (t:T) (h:tSm t) (a b:Unit->Res):j6t t.2.1 (nI t.2.1.length) t Z1Y 0 a b=bif j41 t.2.1 then a () else b ():=by
 have f:=h
 obtain ⟨j,k,l,g,m⟩:=f
 unfold j6t
 have:=Z9y t.2.1 (λi=>i) (λi c=> !j0R c||(j02 t.2.1 c.1 != (i:Int))) (step:=j2x t.2.1 (nI t.2.1.length) t) (a,b) (a ()) (b ()) (by unfold LIM;omega) (λi rec d=>by
  show j1x _ _ t _ _ _ _=_
  unfold j1x
  rw [Zam d,cond_true,j00 d,cond_true,Za7 _ _ _ d,ji5 _ (by have:=g _ (List.getElem_mem d);unfold LIM;omega),j6N t _ (by unfold LIM;omega),j01 (n:=(i:Int)+1) (by omega)]
  cases j0R t.2.1[i]
  ·rfl
  ·cases j02 t.2.1 t.2.1[i].1 != (i:Int)<;>rfl) (λrec=>by
  show j1x _ _ t _ _ _ _=_
  unfold j1x
  rw [Zal,cond_false])
 refine this.trans ?_
 unfold j41
 cases Z6V (λi c=> !j0R c||(j02 t.2.1 c.1 != (i:Int))) 0 t.2.1<;>rfl
noncomputable def j7l (l:List C) (b:Int) (k:ByteArray):Except Unit Int:=bif decide (j02 l k<=b) then .error () else bif !(nth zC l (j02 l k)).2.2.1 then .error () else .ok (j02 l k)
theorem jfV (l:List C):(ks:List ByteArray)->(i:Nat)->(b:Int)->(∃ z,Z1Q (λ_ b k=>j7l l b k) i ks b= .ok z/\j12 l b ks=true)\/(Z1Q (λ_ b k=>j7l l b k) i ks b= .error ()/\j12 l b ks=false)
 | [],_,b=> .inl ⟨b,rfl,rfl⟩
 | k::ks,i,b=>by
  have d:=jfV l ks (i+1) (j02 l k)
  simp only [Z1Q,j12,j7l] at d ⊢
  cases decide (j02 l k<=b)
  ·cases (nth zC l (j02 l k)).2.2.1
   ·exact .inr ⟨rfl,rfl⟩
   ·exact d
  ·exact .inr ⟨rfl,rfl⟩
theorem jkW (t:T) (h:tSm t) (a b:Unit->Res):j6G t.2.2 (nI t.2.2.length) t Z1Y (-1) 0 a b=bif j12 t.2.1 (-1) t.2.2 then a () else b ():=by
 have q:=h
 obtain ⟨w,y,A,B,C⟩:=q
 unfold j6G
 have:=Z3V t.2.2 (λi d=>(d,i)) (λ_ d k=>j7l t.2.1 d k) (λ_ d=> -1<=d) (step:=j4G t.2.2 (nI t.2.2.length) t) (a,b) (λ_=>a ()) (λ_=>b ()) (-1) (by unfold LIM;omega) (by omega) (λi d m l p g=>by
  unfold j7l at g
  have:=(j7S t.2.1 t.2.2[i]).1
  cases f:decide (j02 t.2.1 t.2.2[i]<=d)
  ·rw [f,cond_false] at g
   cases j:(nth zC t.2.1 (j02 t.2.1 t.2.2[i])).2.2.1
   ·rw [j] at g;cases g
   ·rw [j] at g
    cases g
    exact this
  ·rw [f] at g;cases g) (λi d rec l p=>by
  show j2H _ _ t _ _ _ _ _=_
  unfold j2H
  dsimp only
  rw [Zam l,cond_true,j00 l,cond_true,Za7 _ _ _ l,j5D t _ (by unfold LIM;omega),j01 (n:=(i:Int)+1) (by omega)]
  unfold j7l
  by_cases f:j02 t.2.1 t.2.2[i]<=d
  ·rw [decide_eq_true f];rfl
  ·have r:=(j7S t.2.1 t.2.2[i]).2
   rw [decide_eq_false f,cond_false,cond_false,Zah (by omega) r,cond_true]
   cases (nth zC t.2.1 (j02 t.2.1 t.2.2[i])).2.2.1<;>rfl) (λd rec _=>by
  show j2H _ _ t _ _ _ _ _=_
  unfold j2H
  dsimp only
  rw [Zal,cond_false])
 refine this.trans ?_
 rcases jfV t.2.1 t.2.2 0 (-1) with ⟨z,f,j⟩ | ⟨f,j⟩<;>rw [f,j]<;>rfl
theorem jkv (t:T) (h:tSm t) (a b:Unit->Res):j6u t.2.2 (nI t.2.2.length) t Z1Y (-1) 0 a b=bif j12 t.2.1 (-1) t.2.2 then a () else b ():=by
 have q:=h
 obtain ⟨w,y,A,B,C⟩:=q
 unfold j6u
 have:=Z3V t.2.2 (λi d=>(d,i)) (λ_ d k=>j7l t.2.1 d k) (λ_ d=> -1<=d) (step:=j4B t.2.2 (nI t.2.2.length) t) (a,b) (λ_=>a ()) (λ_=>b ()) (-1) (by unfold LIM;omega) (by omega) (λi d m l p g=>by
  unfold j7l at g
  have:=(j7S t.2.1 t.2.2[i]).1
  cases f:decide (j02 t.2.1 t.2.2[i]<=d)
  ·rw [f,cond_false] at g
   cases j:(nth zC t.2.1 (j02 t.2.1 t.2.2[i])).2.2.1
   ·rw [j] at g;cases g
   ·rw [j] at g
    cases g
    exact this
  ·rw [f] at g;cases g) (λi d rec l p=>by
  show j2y _ _ t _ _ _ _ _=_
  unfold j2y
  dsimp only
  rw [Zam l,cond_true,j00 l,cond_true,Za7 _ _ _ l,j6N t _ (by unfold LIM;omega),j01 (n:=(i:Int)+1) (by omega)]
  unfold j7l
  by_cases f:j02 t.2.1 t.2.2[i]<=d
  ·rw [decide_eq_true f];rfl
  ·have r:=(j7S t.2.1 t.2.2[i]).2
   rw [decide_eq_false f,cond_false,cond_false,Zah (by omega) r,cond_true]
   cases (nth zC t.2.1 (j02 t.2.1 t.2.2[i])).2.2.1<;>rfl) (λd rec _=>by
  show j2y _ _ t _ _ _ _ _=_
  unfold j2y
  dsimp only
  rw [Zal,cond_false])
 refine this.trans ?_
 rcases jfV t.2.1 t.2.2 0 (-1) with ⟨z,f,j⟩ | ⟨f,j⟩<;>rw [f,j]<;>rfl
theorem jpg (t:T) (k:Bool->Res):j4p t k=j0y t.1 λw=>k (!(w&&(decide (1<=t.2.1.length)&&(decide (t.2.1.length<=8)&&decide (1<=t.2.2.length))))):=by
 unfold j4p
 congr 1
 funext w
 unfold nI
 cases w
 ·rfl
 ·rw [Bool.not_true,cond_false,Bool.true_and]
  by_cases b:1<=t.2.1.length
  ·rw [decide_eq_false (show ¬ (t.2.1.length:Int)<1 by omega),cond_false,decide_eq_true b,Bool.true_and]
   by_cases d:t.2.1.length<=8
   ·rw [decide_eq_false (show ¬ (t.2.1.length:Int)>8 by omega),cond_false,decide_eq_true d,Bool.true_and]
    congr 1
    by_cases f:1<=t.2.2.length
    ·rw [decide_eq_false (show ¬ (t.2.2.length:Int)<1 by omega),decide_eq_true f];rfl
    ·rw [decide_eq_true (show (t.2.2.length:Int)<1 by omega),decide_eq_false f];rfl
   ·rw [decide_eq_true (show (t.2.1.length:Int)>8 by omega),decide_eq_false d];rfl
  ·rw [decide_eq_true (show (t.2.1.length:Int)<1 by omega),decide_eq_false b];rfl
theorem jgX (t:T) (h:tSm t) (k:Bool->Res):j0o t k=k (j03 t):=by
 have b:=h
 obtain ⟨d,f,g,i,j⟩:=b
 unfold j0o j03
 rw [jpg,j4y _ (by unfold LIM;omega),jkV t h,jkW t h]
 cases j0j t.1&&(decide (1<=t.2.1.length)&&(decide (t.2.1.length<=8)&&decide (1<=t.2.2.length)))
 ·rfl
 ·cases j41 t.2.1
  ·rfl
  ·cases j12 t.2.1 (-1) t.2.2<;>rfl
theorem jgN (t:T) (h:tSm t) (k:Bool->Res):j0C t k=k (j03 t):=by
 have d:=h
 obtain ⟨g,i,j,l,m⟩:=d
 unfold j0C j03
 rw [j4u _ (by unfold LIM;omega),j4r,jku t h,jkv t h]
 have b:decide (1<=nI t.2.1.length/\nI t.2.1.length<=8)=(decide (1<=t.2.1.length)&&decide (t.2.1.length<=8)):=by
  rw [<-Bool.decide_and]
  exact decide_eq_decide.2 (by unfold nI;omega)
 have f:decide (nI t.2.2.length>0)=decide (1<=t.2.2.length):=decide_eq_decide.2 (by unfold nI;omega)
 rw [b,f]
 cases j41 t.2.1
 ·rw [Bool.false_and,Bool.and_false];rfl
 ·cases j12 t.2.1 (-1) t.2.2
  ·rw [Bool.and_false,Bool.and_false];rfl
  ·cases j0j t.1
   ·rfl
   ·cases decide (1<=t.2.1.length)
    ·rfl
    ·cases decide (t.2.1.length<=8)
     ·rfl
     ·cases decide (1<=t.2.2.length)<;>rfl
theorem jbz (t:T) (h:msr yT t<=1048576) (k:Bool->Res):j0o t k=k (j03 t):=jgX t (j2e h) k
theorem jeu (t:T) (h:msr yT t<=1048576) (k:Bool->Res):j0C t k=k (j03 t):=jgN t (j2e h) k
theorem jlj (c:List T) (i:Nat) (d:i<c.length) (b:c.length<=LIM) (x:Res) (y:Res):(bif decide ((i:Int)>0) then (bif inb (Z9x ((i:Int)-1)) c.length then (bif sGe (nth zT c (Z9x ((i:Int)-1))).1 c[i].1 then x else y) else none) else y) =
  bif (decide (0<i)&&sGe (nth zT c ((i:Int)-1)).1 c[i].1) then x else y:=by
 by_cases h:0<i
 ·unfold LIM at b
  rw [decide_eq_true (show (i:Int)>0 by omega),decide_eq_true h,cond_true,j01 (by omega),Zah (by omega) (by omega),cond_true,Bool.true_and]
 ·rw [decide_eq_false (show ¬ (i:Int)>0 by omega),decide_eq_false h];rfl
end Go.PI.G
namespace Go.PI.G
open Go Go.PI
def free (b:Int) (s:ByteArray):Prop:=b ∉ Z1k s
theorem jeK {s:ByteArray} (h:j0j s=true):1<=s.size/\s.size<=8:=by
 unfold j0j at h
 simp only [Bool.and_eq_true,decide_eq_true_eq] at h
 exact h.2
end Go.PI.G
