/-
  Program's code interpreted over typed values; printed texts; plain laws. No conditions.
-/
import Derived.Test.YtnemiodjnhfejaaGreatPc
import Derived.Test.YtnemiodjnhfejaaGreatBEd
import Derived.Test.YtnemiodjnhfejaaGreatBEh
import Derived.Test.YtnemiodjnhfejaaGreatBEf
set_option linter.unusedVariables false
set_option maxRecDepth 100000
namespace Go.PI.G
open Go Go.PI Go.Proofs
open Go.Code (pl pr)
end Go.PI.G
namespace Go.PI.G
noncomputable section
open Go Go.PI Go.Proofs
open Go.Code (pl pr)
def j2I (g:Int) (f:List Int) (h:Int) (d:List Int) (b:Int) (rec:(List Int)->Int->Res) (i:(List Int)->Res):Res:=bif decide (b<h) then bif inb b (List.length f) then bif decide ((nth 0 f b)>g) then bif lim ((List.length d)+1) then rec (d++[nth 0 f b]) (Z9K (b+1)) else none else rec d (Z9K (b+1)) else none else i d
def j4I (b:Int) (f:List Int) (g:Int):((List Int)×Int)->((List Int)×Int->Res)->(((List Int)->Res))->Res:=λv rec q=>j2I b f g v.1 v.2 (λd h=>rec (d,h)) q
def j9D (b:Int) (f:List Int) (g:Int) (n:Nat) (d:List Int) (h:Int) (i:(List Int)->Res):Res:=Z1f (j4I b f g) n (d,h) (i)
def j8S:Z1d Unit:=NdL 25 25 [.I 1,.R 5 y21 .O,.R 10 y21 .O,.I 11,.I 12] [] (λb f=>(b.2.1,b.2.2.2.2.1)) (λb v=>(b.1,v.1,b.2.2.1,b.2.2.2.1,v.2,())) (λf v=>()) (λb f=>j4I b.1 b.2.2.1 b.2.2.2.1) λb f g=>((λd=>g (.exit 0) [(5,v1 y21 d .O)] []))
theorem jhP:CN 0 58 Tryz.f42 j8S:=lK (Za6 jdP Zas) [] oN ([],[]) [(0,[5],[])] ([],[]) λ_ _ _ _ _=>by kernel_rfl
def j5y (l:List qP) (b:Int) (f:(List Int)->Res):Res:=j5s l λr=>j9D b r (nI (List.length r)) Z1c [] 0 λd=>f d
def jed:Sig Unit:=sg [.borrow y20 false,.borrow tI false] [false] [(y20,none),(tI,none)] [] λb f k=>j5y b.1 b.2.1 (λd=>k [w1 y21 d .O] [] [])
theorem jjc:SO 42 jed:=fK (np:=0) (Za6 jdP Zas) [j8S] (oI 58 0 @jhP oN) false Tryz.func42 λ_ _ _ _=>by delta j5y jeb j8S j9D;refine gz j5s λ_ b=>gz j4I λ_ d=> ?_;rewrite [<-b,<-d];kernel_rfl
def j6p (l:List qP) (b:Int) (d:Int->Res):Res:=j5V l λr=>bif !r then d (-1) else j5y l b λf=>d (nI (List.length f))
def jfr:Sig Unit:=sg [.look y20 false,.look tI false] [false] [(y20,none),(tI,none)] [] λb f k=>j6p b.1 b.2.1 (λd=>k [wI d] [] [])
theorem jkx:SO 33 jfr:=fK (np:=0) (Za6 jjc (Za6 jbP Zas)) [] oN false Tryz.func33 λ_ _ _ _=>by delta j6p jch jed;refine gz j5V λ_ b=>gz j5y λ_ d=> ?_;rewrite [<-b,<-d];kernel_rfl
def j2y (g:Int) (f:List Int) (h:Int) (d:List Int) (b:Int) (rec:(List Int)->Int->Res) (i:(List Int)->Res):Res:=bif decide (b<h) then bif inb b (List.length f) then bif decide ((nth 0 f b)>g) then bif lim ((List.length d)+1) then rec (d++[nth 0 f b]) (Z9K (b+1)) else none else rec d (Z9K (b+1)) else none else i d
def j4D (b:Int) (f:List Int) (g:Int):((List Int)×Int)->((List Int)×Int->Res)->(((List Int)->Res))->Res:=λv rec q=>j2y b f g v.1 v.2 (λd h=>rec (d,h)) q
def j9b (b:Int) (f:List Int) (g:Int) (n:Nat) (d:List Int) (h:Int) (i:(List Int)->Res):Res:=Z1f (j4D b f g) n (d,h) (i)
def j8L:Z1d Unit:=NdL 25 25 [.I 1,.R 5 y21 .O,.R 10 y21 .O,.I 11,.I 12] [] (λb f=>(b.2.1,b.2.2.2.2.1)) (λb v=>(b.1,v.1,b.2.2.1,b.2.2.2.1,v.2,())) (λf v=>()) (λb f=>j4D b.1 b.2.2.1 b.2.2.2.1) λb f g=>((λd=>g (.exit 0) [(5,v1 y21 d .O)] []))
theorem jhy:CN 0 58 Tryz.f43 j8L:=lK (Za6 jdG Zas) [] oN ([],[]) [(0,[5],[])] ([],[]) λ_ _ _ _ _=>by kernel_rfl
def j52 (l:List qP) (b:Int) (f:(List Int)->Res):Res:=j4W l λr=>j9b b r (nI (List.length r)) Z1c [] 0 λd=>f d
def je9:Sig Unit:=sg [.borrow y20 false,.borrow tI false] [false] [(y20,none),(tI,none)] [] λb f k=>j52 b.1 b.2.1 (λd=>k [w1 y21 d .O] [] [])
theorem jj5:SO 43 je9:=fK (np:=0) (Za6 jdG Zas) [j8L] (oI 58 0 @jhy oN) false Tryz.func43 λ_ _ _ _=>by delta j52 je8 j8L j9b;refine gz j4W λ_ b=>gz j4D λ_ d=> ?_;rewrite [<-b,<-d];kernel_rfl
def j6h (l:List qP) (b:Int) (d:Int->Res):Res:=j5K l λr=>bif !r then d (-1) else j52 l b λf=>d (nI (List.length f))
def jfh:Sig Unit:=sg [.look y20 false,.look tI false] [false] [(y20,none),(tI,none)] [] λb f k=>j6h b.1 b.2.1 (λd=>k [wI d] [] [])
theorem jkj:SO 34 jfh:=fK (np:=0) (Za6 jj5 (Za6 jbF Zas)) [] oN false Tryz.func34 λ_ _ _ _=>by delta j6h jca je9;refine gz j5K λ_ b=>gz j52 λ_ d=> ?_;rewrite [<-b,<-d];kernel_rfl
end
end Go.PI.G
namespace Go.PI.G
noncomputable section
open Go Go.PI Go.Proofs
open Go.Code (pl pr)
def j9k (a:Int×Int×qB) (left:Int) (b:Int->Res):Res:=bif decide ((Z9K (left-(nI (ByteArray.size a.2.2))))<0) then b (-1) else b (Z9K (left-(nI (ByteArray.size a.2.2))))
def jm6:Sig Unit:=sg [.look y2 true,.look tI false] [false] [(y2,none),(tI,none)] [] λb f k=>j9k b.1 b.2.1 (λd=>k [wI d] [] [])
theorem jbK:SO 105 jm6:=fK (np:=0) Zas [] oN false Tryz.func105 λ_ _ _ _=>by kernel_rfl
def j9m (a:Int×Int×qB) (b:qV->Res):Res:=b (a.1,a.2.1,a.2.2)
def jm9:Sig Unit:=sg [.look y2 true] [true] [(y2,none)] [] λd f k=>j9m d.1 (λb=>k [⟨y2,true,b,[]⟩] [] [])
theorem jbL:SO 106 jm9:=fK (np:=0) Zas [] oN false Tryz.func106 λ_ _ _ _=>by kernel_rfl
def j9i (a:Int×Int×qB) (b:Int×Int×qB) (d:Bool->Res):Res:=bif (a.1 != b.1) then d false else bif (a.2.1 != b.2.1) then d false else bif sNe a.2.2 b.2.2 then d false else d true
def jm3:Sig Unit:=sg [.look y2 true,.look y2 true] [false] [(y2,none),(y2,none)] [] λb f k=>j9i b.1 b.2.1 (λd=>k [wB d] [] [])
theorem jbJ:SO 107 jm3:=fK (np:=0) Zas [] oN false Tryz.func107 λ_ _ _ _=>by kernel_rfl
end
end Go.PI.G
namespace Go.PI.G
noncomputable section
open Go Go.PI Go.Proofs
open Go.Code (pl pr)
def jbr (a:qB×Int×Bool×Bool×Int×Int×qB) (left:Int) (b:Int->Res):Res:=bif decide ((Z9K (left-(nI (ByteArray.size a.1))))<0) then b (-1) else j9k a.2.2.2.2 (Z9K (left-(nI (ByteArray.size a.1)))) λr=>bif decide (r<0) then b (-1) else b r
def jm4:Sig Unit:=sg [.look y7 true,.look tI false] [false] [(y7,none),(tI,none)] [] λb f k=>jbr b.1 b.2.1 (λd=>k [wI d] [] [])
theorem jfQ:SO 285 jm4:=fK (np:=0) (Za6 jbK Zas) [] oN false Tryz.func285 λ_ _ _ _=>by kernel_rfl
def jbt (a:qB×Int×Bool×Bool×Int×Int×qB) (b:qC->Res):Res:=j9m a.2.2.2.2 λr=>b (a.1,a.2.1,a.2.2.1,a.2.2.2.1,r)
def jm7:Sig Unit:=sg [.look y7 true] [true] [(y7,none)] [] λd f k=>jbt d.1 (λb=>k [⟨y7,true,b,[]⟩] [] [])
theorem jfS:SO 292 jm7:=fK (np:=0) (Za6 jbL Zas) [] oN false Tryz.func292 λ_ _ _ _=>by kernel_rfl
def jbp (a:qB×Int×Bool×Bool×Int×Int×qB) (b:qB×Int×Bool×Bool×Int×Int×qB) (d:Bool->Res):Res:=bif sNe a.1 b.1 then d false else bif (a.2.1 != b.2.1) then d false else bif !(a.2.2.1==b.2.2.1) then d false else bif !(a.2.2.2.1==b.2.2.2.1) then d false else j9i a.2.2.2.2 b.2.2.2.2 λr=>bif !r then d false else d true
def jm1:Sig Unit:=sg [.look y7 true,.look y7 true] [false] [(y7,none),(y7,none)] [] λb f k=>jbp b.1 b.2.1 (λd=>k [wB d] [] [])
theorem jfO:SO 302 jm1:=fK (np:=0) (Za6 jbJ Zas) [] oN false Tryz.func302 λ_ _ _ _=>by kernel_rfl
end
end Go.PI.G
namespace Go.PI.G
open Go Go.PI Go.Proofs
open Go.Code (pl pr)
end Go.PI.G
namespace Go.PI.G
noncomputable section
open Go Go.PI Go.Proofs
open Go.Code (pl pr)
def j3l (a:List qC) (left:Int) (i:Int) (rec:Int->Int->Res) (b:Int->Res) (d:Unit->Res):Res:=bif decide (i<(nI (List.length a))) then bif inb i (List.length a) then jbr (nth (eS,0,false,false,0,0,eS) a i) left λr=>bif decide (r<0) then d () else rec r (Z9K (i+1)) else none else b left
def jc2 (a:List qC):(Int×Int)->(Int×Int->Res)->((Int->Res)×(Unit->Res))->Res:=λv rec q=>j3l a v.1 v.2 (λleft i=>rec (left,i)) q.1 q.2
def jae (a:List qC) (n:Nat) (left:Int) (i:Int) (b:Int->Res) (d:Unit->Res):Res:=Z1f (jc2 a) n (left,i) (b,d)
def jd6:Z1d Unit:=NdL 27 27 [.R 0 y8 .S,.I 1,.I 5] [] (λd f=>(d.2.1,d.2.2.1)) (λd v=>(d.1,v.1,v.2,())) (λf v=>()) (λd f=>jc2 d.1) λd f g=>((λb=>g (.exit 0) [(1,vI b)] []),(λ_=>g .ret [(4,vI (-1))] []))
theorem jix:CN 0 122 Tryz.f241 jd6:=lK (Za6 jfQ Zas) [] oN ([],[]) [(0,[1],[])] ([4],[]) λ_ _ _ _ _=>by kernel_rfl
def j81 (a:List qC) (left:Int) (d:Int->Res):Res:=bif decide ((Z9K (left-(nI (List.length a))))<0) then d (-1) else jae a Z1c (Z9K (left-(nI (List.length a)))) 0 (λb=>d b) (λ_=>d (-1))
def jfl:Sig Unit:=sg [.look y8 false,.look tI false] [false] [(y8,none),(tI,none)] [] λb f k=>j81 b.1 b.2.1 (λd=>k [wI d] [] [])
theorem jkr:SO 241 jfl:=fK (np:=0) (Za6 jfQ Zas) [jd6] (oI 122 0 @jix oN) false Tryz.func241 λ_ _ _ _=>by kernel_rfl
def j3o (a:List qC) (b:List qC) (i:Int) (rec:qE->Int->Res) (d:qE->Res):Res:=bif decide (i<(nI (List.length a))) then bif inb i (List.length a) then jbt (nth (eS,0,false,false,0,0,eS) a i) λr=>bif inb i (List.length b) then rec (upd b i r) (Z9K (i+1)) else none else none else d b
def j8s (a:List qC):(qE×Int)->(qE×Int->Res)->((qE->Res))->Res:=λv rec q=>j3o a v.1 v.2 (λb i=>rec (b,i)) q
def jjm (a:List qC) (n:Nat) (b:List qC) (i:Int) (d:qE->Res):Res:=Z1f (j8s a) n (b,i) (d)
def jd9:Z1d Unit:=NdL 23 23 [.R 0 y8 .S,.R 3 y8 .O,.I 4] [] (λb f=>(b.2.1,b.2.2.1)) (λb v=>(b.1,v.1,v.2,())) (λf v=>()) (λb f=>j8s b.1) λb f g=>((λd=>g (.exit 0) [(3,v1 y8 d .O)] []))
theorem jiA:CN 0 58 Tryz.f249 jd9:=lK (Za6 jfS Zas) [] oN ([],[]) [(0,[3],[])] ([],[]) λ_ _ _ _ _=>by kernel_rfl
def j84 (a:List qC) (d:qE->Res):Res:=bif Z9I (nI (List.length a)) (nI (List.length a)) then jjm a Z1c (Z9h (nI (List.length a)) (eS,0,false,false,0,0,eS)) 0 λb=>d b else none
def jfo:Sig Unit:=sg [.borrow y8 false] [false] [(y8,none)] [] λd f k=>j84 d.1 (λb=>k [w1 y8 b .O] [] [])
theorem jku:SO 249 jfo:=fK (np:=0) (Za6 jfS Zas) [jd9] (oI 58 0 @jiA oN) false Tryz.func249 λ_ _ _ _=>by kernel_rfl
def j3i (a:List qC) (b:List qC) (i:Int) (rec:Int->Res) (d:Unit->Res) (f:Unit->Res):Res:=bif decide (i<(nI (List.length a))) then bif inb i (List.length a) then bif inb i (List.length b) then jbp (nth (eS,0,false,false,0,0,eS) a i) (nth (eS,0,false,false,0,0,eS) b i) λr=>bif !r then f () else rec (Z9K (i+1)) else none else none else d ()
def jbZ (a:List qC) (b:List qC):Int->(Int->Res)->((Unit->Res)×(Unit->Res))->Res:=λv rec q=>j3i a b v (λi=>rec (i)) q.1 q.2
def je3 (a:List qC) (b:List qC) (n:Nat) (i:Int) (d:Unit->Res) (f:Unit->Res):Res:=Z1f (jbZ a b) n (i) (d,f)
def jd3:Z1d Unit:=NdL 27 27 [.R 0 y8 .S,.R 1 y8 .S,.I 5] [] (λb d=>(b.2.2.1)) (λb v=>(b.1,b.2.1,v,())) (λd v=>()) (λb d=>jbZ b.1 b.2.1) λb d f=>((λ_=>f (.exit 0) [] []),(λ_=>f .ret [(4,vB false)] []))
theorem jiu:CN 0 58 Tryz.f258 jd3:=lK (Za6 jfO Zas) [] oN ([],[]) [(0,[],[])] ([4],[]) λ_ _ _ _ _=>by kernel_rfl
def j7Y (a:List qC) (b:List qC) (d:Bool->Res):Res:=bif ((nI (List.length a)) != (nI (List.length b))) then d false else je3 a b Z1c 0 (λ_=>d true) (λ_=>d false)
def jfi:Sig Unit:=sg [.look y8 false,.look y8 false] [false] [(y8,none),(y8,none)] [] λb f k=>j7Y b.1 b.2.1 (λd=>k [wB d] [] [])
theorem jko:SO 258 jfi:=fK (np:=0) (Za6 jfO Zas) [jd3] (oI 58 0 @jiu oN) false Tryz.func258 λ_ _ _ _=>by kernel_rfl
end
end Go.PI.G
namespace Go.PI.G
noncomputable section
open Go Go.PI Go.Proofs
open Go.Code (pl pr)
def j1I (a:qL) (left:Int) (i:Int) (rec:Int->Int->Res) (b:Int->Res) (d:Unit->Res):Res:=bif decide (i<(nI (List.length a))) then bif inb i (List.length a) then bif decide ((Z9K (left-(nI (ByteArray.size (nth eS a i)))))<0) then d () else rec (Z9K (left-(nI (ByteArray.size (nth eS a i))))) (Z9K (i+1)) else none else b left
def j9Z (a:qL):(Int×Int)->(Int×Int->Res)->((Int->Res)×(Unit->Res))->Res:=λv rec q=>j1I a v.1 v.2 (λleft i=>rec (left,i)) q.1 q.2
def j7I (a:qL) (n:Nat) (left:Int) (i:Int) (b:Int->Res) (d:Unit->Res):Res:=Z1f (j9Z a) n (left,i) (b,d)
def jaR:Z1d Unit:=NdL 28 28 [.R 0 y0 .S,.I 1,.I 5] [] (λd f=>(d.2.1,d.2.2.1)) (λd v=>(d.1,v.1,v.2,())) (λf v=>()) (λd f=>j9Z d.1) λd f g=>((λb=>g (.exit 0) [(1,vI b)] []),(λ_=>g .ret [(4,vI (-1))] []))
theorem jg9:CN 0 122 Tryz.f82 jaR:=lK Zas [] oN ([],[]) [(0,[1],[])] ([4],[]) λ_ _ _ _ _=>by kernel_rfl
def j57 (a:qL) (left:Int) (d:Int->Res):Res:=bif decide ((Z9K (left-(nI (List.length a))))<0) then d (-1) else j7I a Z1c (Z9K (left-(nI (List.length a)))) 0 (λb=>d b) (λ_=>d (-1))
def jcd:Sig Unit:=sg [.look y0 false,.look tI false] [false] [(y0,none),(tI,none)] [] λb f k=>j57 b.1 b.2.1 (λd=>k [wI d] [] [])
theorem jhb:SO 82 jcd:=fK (np:=0) Zas [jaR] (oI 122 0 @jg9 oN) false Tryz.func82 λ_ _ _ _=>by kernel_rfl
def j1J (a:qL) (b:qL) (i:Int) (rec:qL->Int->Res) (d:qL->Res):Res:=bif decide (i<(nI (List.length a))) then bif inb i (List.length a) then bif inb i (List.length b) then rec (upd b i (nth eS a i)) (Z9K (i+1)) else none else none else d b
def j6u (a:qL):(qL×Int)->(qL×Int->Res)->((qL->Res))->Res:=λv rec q=>j1J a v.1 v.2 (λb i=>rec (b,i)) q
def jgH (a:qL) (n:Nat) (b:qL) (i:Int) (d:qL->Res):Res:=Z1f (j6u a) n (b,i) (d)
def jaS:Z1d Unit:=NdL 22 22 [.R 0 y0 .S,.R 3 y0 .O,.I 4] [] (λb f=>(b.2.1,b.2.2.1)) (λb v=>(b.1,v.1,v.2,())) (λf v=>()) (λb f=>j6u b.1) λb f g=>((λd=>g (.exit 0) [(3,v1 y0 d .O)] []))
theorem jga:CN 0 58 Tryz.f88 jaS:=lK Zas [] oN ([],[]) [(0,[3],[])] ([],[]) λ_ _ _ _ _=>by kernel_rfl
def j58 (a:qL) (d:qL->Res):Res:=bif Z9I (nI (List.length a)) (nI (List.length a)) then jgH a Z1c (Z9h (nI (List.length a)) eS) 0 λb=>d b else none
def jce:Sig Unit:=sg [.borrow y0 false] [false] [(y0,none)] [] λd f k=>j58 d.1 (λb=>k [w1 y0 b .O] [] [])
theorem jhc:SO 88 jce:=fK (np:=0) Zas [jaS] (oI 58 0 @jga oN) false Tryz.func88 λ_ _ _ _=>by kernel_rfl
def j1H (a:qL) (b:qL) (i:Int) (rec:Int->Res) (d:Unit->Res) (f:Unit->Res):Res:=bif decide (i<(nI (List.length a))) then bif inb i (List.length a) then bif inb i (List.length b) then bif sNe (nth eS a i) (nth eS b i) then f () else rec (Z9K (i+1)) else none else none else d ()
def j9Y (a:qL) (b:qL):Int->(Int->Res)->((Unit->Res)×(Unit->Res))->Res:=λv rec q=>j1H a b v (λi=>rec (i)) q.1 q.2
def jbk (a:qL) (b:qL) (n:Nat) (i:Int) (d:Unit->Res) (f:Unit->Res):Res:=Z1f (j9Y a b) n (i) (d,f)
def jaQ:Z1d Unit:=NdL 26 26 [.R 0 y0 .S,.R 1 y0 .S,.I 5] [] (λb d=>(b.2.2.1)) (λb v=>(b.1,b.2.1,v,())) (λd v=>()) (λb d=>j9Y b.1 b.2.1) λb d f=>((λ_=>f (.exit 0) [] []),(λ_=>f .ret [(4,vB false)] []))
theorem jg8:CN 0 58 Tryz.f97 jaQ:=lK Zas [] oN ([],[]) [(0,[],[])] ([4],[]) λ_ _ _ _ _=>by kernel_rfl
def j56 (a:qL) (b:qL) (d:Bool->Res):Res:=bif ((nI (List.length a)) != (nI (List.length b))) then d false else jbk a b Z1c 0 (λ_=>d true) (λ_=>d false)
def jcc:Sig Unit:=sg [.look y0 false,.look y0 false] [false] [(y0,none),(y0,none)] [] λb f k=>j56 b.1 b.2.1 (λd=>k [wB d] [] [])
theorem jha:SO 97 jcc:=fK (np:=0) Zas [jaQ] (oI 58 0 @jg8 oN) false Tryz.func97 λ_ _ _ _=>by kernel_rfl
end
end Go.PI.G
namespace Go.PI.G
noncomputable section
open Go Go.PI Go.Proofs
open Go.Code (pl pr)
def j7r (a:qG) (left:Int) (b:Int->Res):Res:=bif decide ((Z9K (left-(nI (ByteArray.size a.2.1))))<0) then b (-1) else j81 a.2.2.1 (Z9K (left-(nI (ByteArray.size a.2.1)))) λr=>bif decide (r<0) then b (-1) else j57 a.2.2.2.1 r λd=>bif decide (d<0) then b (-1) else bif decide ((Z9K (d-(nI (ByteArray.size a.2.2.2.2.1))))<0) then b (-1) else bif decide ((Z9K ((Z9K (d-(nI (ByteArray.size a.2.2.2.2.1))))-(nI (ByteArray.size a.2.2.2.2.2))))<0) then b (-1) else b (Z9K ((Z9K (d-(nI (ByteArray.size a.2.2.2.2.1))))-(nI (ByteArray.size a.2.2.2.2.2))))
def jgo:Sig Unit:=sg [.look y13 true,.look tI false] [false] [(y13,none),(tI,none)] [] λb f k=>j7r b.1 b.2.1 (λd=>k [wI d] [] [])
theorem jlk:SO 185 jgo:=fK (np:=0) (Za6 jhb (Za6 jkr Zas)) [] oN false Tryz.func185 λ_ _ _ _=>by delta j7r jfl jcd;refine gz j81 λ_ b=>gz j57 λ_ d=> ?_;rewrite [<-b,<-d];kernel_rfl
def j7s (a:qG) (b:qG->Res):Res:=j84 a.2.2.1 λr=>j58 a.2.2.2.1 λd=>b (a.1,a.2.1,r,d,a.2.2.2.2.1,a.2.2.2.2.2)
def jgq:Sig Unit:=sg [.borrow y13 true] [true] [(y13,none)] [] λd f k=>j7s d.1 (λb=>k [⟨y13,true,b,[.O,.O]⟩] [] [])
theorem jlm:SO 194 jgq:=fK (np:=0) (Za6 jhc (Za6 jku Zas)) [] oN false Tryz.func194 λ_ _ _ _=>by delta j7s jfo jce;refine gz j84 λ_ b=>gz j58 λ_ d=> ?_;rewrite [<-b,<-d];kernel_rfl
def j7q (a:qG) (b:qG) (d:Bool->Res):Res:=bif (a.1 != b.1) then d false else bif sNe a.2.1 b.2.1 then d false else j7Y a.2.2.1 b.2.2.1 λr=>bif !r then d false else j56 a.2.2.2.1 b.2.2.2.1 λf=>bif !f then d false else bif sNe a.2.2.2.2.1 b.2.2.2.2.1 then d false else bif sNe a.2.2.2.2.2 b.2.2.2.2.2 then d false else d true
def jgm:Sig Unit:=sg [.look y13 true,.look y13 true] [false] [(y13,none),(y13,none)] [] λb f k=>j7q b.1 b.2.1 (λd=>k [wB d] [] [])
theorem jli:SO 200 jgm:=fK (np:=0) (Za6 jha (Za6 jko Zas)) [] oN false Tryz.func200 λ_ _ _ _=>by delta j7q jfi jcc;refine gz j7Y λ_ b=>gz j56 λ_ d=> ?_;rewrite [<-b,<-d];kernel_rfl
end
end Go.PI.G
namespace Go.PI.G
noncomputable section
open Go Go.PI Go.Proofs
open Go.Code (pl pr)
def j3n (a:List qV) (left:Int) (i:Int) (rec:Int->Int->Res) (b:Int->Res) (d:Unit->Res):Res:=bif decide (i<(nI (List.length a))) then bif inb i (List.length a) then j9k (nth (0,0,eS) a i) left λr=>bif decide (r<0) then d () else rec r (Z9K (i+1)) else none else b left
def jc4 (a:List qV):(Int×Int)->(Int×Int->Res)->((Int->Res)×(Unit->Res))->Res:=λv rec q=>j3n a v.1 v.2 (λleft i=>rec (left,i)) q.1 q.2
def jag (a:List qV) (n:Nat) (left:Int) (i:Int) (b:Int->Res) (d:Unit->Res):Res:=Z1f (jc4 a) n (left,i) (b,d)
def jd8:Z1d Unit:=NdL 27 27 [.R 0 y3 .S,.I 1,.I 5] [] (λd f=>(d.2.1,d.2.2.1)) (λd v=>(d.1,v.1,v.2,())) (λf v=>()) (λd f=>jc4 d.1) λd f g=>((λb=>g (.exit 0) [(1,vI b)] []),(λ_=>g .ret [(4,vI (-1))] []))
theorem jiz:CN 0 122 Tryz.f37 jd8:=lK (Za6 jbK Zas) [] oN ([],[]) [(0,[1],[])] ([4],[]) λ_ _ _ _ _=>by kernel_rfl
def j6m (a:List qV) (left:Int) (d:Int->Res):Res:=bif decide ((Z9K (left-(nI (List.length a))))<0) then d (-1) else jag a Z1c (Z9K (left-(nI (List.length a)))) 0 (λb=>d b) (λ_=>d (-1))
def jfn:Sig Unit:=sg [.look y3 false,.look tI false] [false] [(y3,none),(tI,none)] [] λb f k=>j6m b.1 b.2.1 (λd=>k [wI d] [] [])
theorem jf8:SO 37 jfn:=fK (np:=0) (Za6 jbK Zas) [jd8] (oI 122 0 @jiz oN) false Tryz.func37 λ_ _ _ _=>by kernel_rfl
def j3q (a:List qV) (b:List qV) (i:Int) (rec:qW->Int->Res) (d:qW->Res):Res:=bif decide (i<(nI (List.length a))) then bif inb i (List.length a) then j9m (nth (0,0,eS) a i) λr=>bif inb i (List.length b) then rec (upd b i r) (Z9K (i+1)) else none else none else d b
def j8u (a:List qV):(qW×Int)->(qW×Int->Res)->((qW->Res))->Res:=λv rec q=>j3q a v.1 v.2 (λb i=>rec (b,i)) q
def jjo (a:List qV) (n:Nat) (b:List qV) (i:Int) (d:qW->Res):Res:=Z1f (j8u a) n (b,i) (d)
def jdb:Z1d Unit:=NdL 23 23 [.R 0 y3 .S,.R 3 y3 .O,.I 4] [] (λb f=>(b.2.1,b.2.2.1)) (λb v=>(b.1,v.1,v.2,())) (λf v=>()) (λb f=>j8u b.1) λb f g=>((λd=>g (.exit 0) [(3,v1 y3 d .O)] []))
theorem jiC:CN 0 58 Tryz.f39 jdb:=lK (Za6 jbL Zas) [] oN ([],[]) [(0,[3],[])] ([],[]) λ_ _ _ _ _=>by kernel_rfl
def j6n (a:List qV) (d:qW->Res):Res:=bif Z9I (nI (List.length a)) (nI (List.length a)) then jjo a Z1c (Z9h (nI (List.length a)) (0,0,eS)) 0 λb=>d b else none
def jfq:Sig Unit:=sg [.borrow y3 false] [false] [(y3,none)] [] λd f k=>j6n d.1 (λb=>k [w1 y3 b .O] [] [])
theorem jf9:SO 39 jfq:=fK (np:=0) (Za6 jbL Zas) [jdb] (oI 58 0 @jiC oN) false Tryz.func39 λ_ _ _ _=>by kernel_rfl
def j3k (a:List qV) (b:List qV) (i:Int) (rec:Int->Res) (d:Unit->Res) (f:Unit->Res):Res:=bif decide (i<(nI (List.length a))) then bif inb i (List.length a) then bif inb i (List.length b) then j9i (nth (0,0,eS) a i) (nth (0,0,eS) b i) λr=>bif !r then f () else rec (Z9K (i+1)) else none else none else d ()
def jc1 (a:List qV) (b:List qV):Int->(Int->Res)->((Unit->Res)×(Unit->Res))->Res:=λv rec q=>j3k a b v (λi=>rec (i)) q.1 q.2
def je5 (a:List qV) (b:List qV) (n:Nat) (i:Int) (d:Unit->Res) (f:Unit->Res):Res:=Z1f (jc1 a b) n (i) (d,f)
def jd5:Z1d Unit:=NdL 27 27 [.R 0 y3 .S,.R 1 y3 .S,.I 5] [] (λb d=>(b.2.2.1)) (λb v=>(b.1,b.2.1,v,())) (λd v=>()) (λb d=>jc1 b.1 b.2.1) λb d f=>((λ_=>f (.exit 0) [] []),(λ_=>f .ret [(4,vB false)] []))
theorem jiw:CN 0 58 Tryz.f41 jd5:=lK (Za6 jbJ Zas) [] oN ([],[]) [(0,[],[])] ([4],[]) λ_ _ _ _ _=>by kernel_rfl
def j6l (a:List qV) (b:List qV) (d:Bool->Res):Res:=bif ((nI (List.length a)) != (nI (List.length b))) then d false else je5 a b Z1c 0 (λ_=>d true) (λ_=>d false)
def jfk:Sig Unit:=sg [.look y3 false,.look y3 false] [false] [(y3,none),(y3,none)] [] λb f k=>j6l b.1 b.2.1 (λd=>k [wB d] [] [])
theorem jf7:SO 41 jfk:=fK (np:=0) (Za6 jbJ Zas) [jd5] (oI 58 0 @jiw oN) false Tryz.func41 λ_ _ _ _=>by kernel_rfl
end
end Go.PI.G
namespace Go.PI.G
noncomputable section
open Go Go.PI Go.Proofs
open Go.Code (pl pr)
def j9j (a:List qV) (left:Int) (b:Int->Res):Res:=j6m a left λr=>bif decide (r<0) then b (-1) else b r
def jgp:Sig Unit:=sg [.look y3 true,.look tI false] [false] [(y3,none),(tI,none)] [] λb f k=>j9j b.1 b.2.1 (λd=>k [wI d] [] [])
theorem jll:SO 184 jgp:=fK (np:=0) (Za6 jf8 Zas) [] oN false Tryz.func184 λ_ _ _ _=>by kernel_rfl
def j9l (a:List qV) (b:qW->Res):Res:=j6n a λr=>b r
def jgr:Sig Unit:=sg [.borrow y3 true] [true] [(y3,none)] [] λd f k=>j9l d.1 (λb=>k [⟨y3,true,b,[.O]⟩] [] [])
theorem jln:SO 193 jgr:=fK (np:=0) (Za6 jf9 Zas) [] oN false Tryz.func193 λ_ _ _ _=>by kernel_rfl
def j9h (a:List qV) (b:List qV) (d:Bool->Res):Res:=j6l a b λr=>bif !r then d false else d true
def jgn:Sig Unit:=sg [.look y3 true,.look y3 true] [false] [(y3,none),(y3,none)] [] λb f k=>j9h b.1 b.2.1 (λd=>k [wB d] [] [])
theorem jlj:SO 50 jgn:=fK (np:=0) (Za6 jf7 Zas) [] oN false Tryz.func50 λ_ _ _ _=>by kernel_rfl
end
end Go.PI.G
namespace Go.PI.G
noncomputable section
open Go Go.PI Go.Proofs
open Go.Code (pl pr)
def j83 (a:qS) (left:Int) (b:Int->Res):Res:=bif decide ((Z9K (left-(nI (ByteArray.size a.2.1))))<0) then b (-1) else j6m a.2.2.1 (Z9K (left-(nI (ByteArray.size a.2.1)))) λr=>bif decide (r<0) then b (-1) else j9j a.2.2.2.1 r λd=>bif decide (d<0) then b (-1) else j7r a.2.2.2.2 d λf=>bif decide (f<0) then b (-1) else b f
def jl2:Sig Unit:=sg [.look y17 true,.look tI false] [false] [(y17,none),(tI,none)] [] λb f k=>j83 b.1 b.2.1 (λd=>k [wI d] [] [])
theorem jkt:SO 132 jl2:=fK (np:=0) (Za6 jf8 (Za6 jll (Za6 jlk Zas))) [] oN false Tryz.func132 λ_ _ _ _=>by delta j83 jfn jgp jgo;refine gz j6m λ_ b=>gz j9j λ_ d=>gz j7r λ_ f=> ?_;rewrite [<-b,<-d,<-f];kernel_rfl
def j85 (a:qS) (b:qS->Res):Res:=j6n a.2.2.1 λr=>j9l a.2.2.2.1 λd=>j7s a.2.2.2.2 λf=>b (a.1,a.2.1,r,d,f)
def jl3:Sig Unit:=sg [.borrow y17 true] [true] [(y17,none)] [] λd f k=>j85 d.1 (λb=>k [⟨y17,true,b,[.O,.O,.O,.O]⟩] [] [])
theorem jkw:SO 137 jl3:=fK (np:=0) (Za6 jf9 (Za6 jln (Za6 jlm Zas))) [] oN false Tryz.func137 λ_ _ _ _=>by delta j85 jfq jgr jgq;refine gz j6n λ_ b=>gz j9l λ_ d=>gz j7s λ_ f=> ?_;rewrite [<-b,<-d,<-f];kernel_rfl
def j80 (a:qS) (b:qS) (d:Bool->Res):Res:=bif (a.1 != b.1) then d false else bif sNe a.2.1 b.2.1 then d false else j6l a.2.2.1 b.2.2.1 λr=>bif !r then d false else j9h a.2.2.2.1 b.2.2.2.1 λf=>bif !f then d false else j7q a.2.2.2.2 b.2.2.2.2 λg=>bif !g then d false else d true
def jl1:Sig Unit:=sg [.look y17 true,.look y17 true] [false] [(y17,none),(y17,none)] [] λb f k=>j80 b.1 b.2.1 (λd=>k [wB d] [] [])
theorem jkq:SO 140 jl1:=fK (np:=0) (Za6 jf7 (Za6 jlj (Za6 jli Zas))) [] oN false Tryz.func140 λ_ _ _ _=>by delta j80 jfk jgn jgm;refine gz j6l λ_ b=>gz j9h λ_ d=>gz j7q λ_ f=> ?_;rewrite [<-b,<-d,<-f];kernel_rfl
end
end Go.PI.G
namespace Go.PI.G
noncomputable section
open Go Go.PI Go.Proofs
open Go.Code (pl pr)
def jbs (a:Int×Int×qS) (left:Int) (b:Int->Res):Res:=j83 a.2.2 left λr=>bif decide (r<0) then b (-1) else b r
def jm5:Sig Unit:=sg [.look y19 true,.look tI false] [false] [(y19,none),(tI,none)] [] λb f k=>jbs b.1 b.2.1 (λd=>k [wI d] [] [])
theorem jfR:SO 75 jm5:=fK (np:=0) (Za6 jkt Zas) [] oN false Tryz.func75 λ_ _ _ _=>by kernel_rfl
def jbu (a:Int×Int×qS) (b:qP->Res):Res:=j85 a.2.2 λr=>b (a.1,a.2.1,r)
def jm8:Sig Unit:=sg [.borrow y19 true] [true] [(y19,none)] [] λd f k=>jbu d.1 (λb=>k [⟨y19,true,b,[.O,.O,.O,.O]⟩] [] [])
theorem jfT:SO 77 jm8:=fK (np:=0) (Za6 jkw Zas) [] oN false Tryz.func77 λ_ _ _ _=>by kernel_rfl
def jbq (a:Int×Int×qS) (b:Int×Int×qS) (d:Bool->Res):Res:=bif (a.1 != b.1) then d false else bif (a.2.1 != b.2.1) then d false else j80 a.2.2 b.2.2 λr=>bif !r then d false else d true
def jm2:Sig Unit:=sg [.look y19 true,.look y19 true] [false] [(y19,none),(y19,none)] [] λb f k=>jbq b.1 b.2.1 (λd=>k [wB d] [] [])
theorem jfP:SO 79 jm2:=fK (np:=0) (Za6 jkq Zas) [] oN false Tryz.func79 λ_ _ _ _=>by kernel_rfl
end
end Go.PI.G
namespace Go.PI.G
noncomputable section
open Go Go.PI Go.Proofs
open Go.Code (pl pr)
def j3m (a:List qP) (left:Int) (i:Int) (rec:Int->Int->Res) (b:Int->Res) (d:Unit->Res):Res:=bif decide (i<(nI (List.length a))) then bif inb i (List.length a) then jbs (nth (0,0,0,eS,[],[],0,eS,[],[],eS,eS) a i) left λr=>bif decide (r<0) then d () else rec r (Z9K (i+1)) else none else b left
def jc3 (a:List qP):(Int×Int)->(Int×Int->Res)->((Int->Res)×(Unit->Res))->Res:=λv rec q=>j3m a v.1 v.2 (λleft i=>rec (left,i)) q.1 q.2
def jaf (a:List qP) (n:Nat) (left:Int) (i:Int) (b:Int->Res) (d:Unit->Res):Res:=Z1f (jc3 a) n (left,i) (b,d)
def jd7:Z1d Unit:=NdL 27 27 [.R 0 y20 .S,.I 1,.I 5] [] (λd f=>(d.2.1,d.2.2.1)) (λd v=>(d.1,v.1,v.2,())) (λf v=>()) (λd f=>jc3 d.1) λd f g=>((λb=>g (.exit 0) [(1,vI b)] []),(λ_=>g .ret [(4,vI (-1))] []))
theorem jiy:CN 0 122 Tryz.f26 jd7:=lK (Za6 jfR Zas) [] oN ([],[]) [(0,[1],[])] ([4],[]) λ_ _ _ _ _=>by kernel_rfl
def j82 (a:List qP) (left:Int) (d:Int->Res):Res:=bif decide ((Z9K (left-(nI (List.length a))))<0) then d (-1) else jaf a Z1c (Z9K (left-(nI (List.length a)))) 0 (λb=>d b) (λ_=>d (-1))
def jfm:Sig Unit:=sg [.look y20 false,.look tI false] [false] [(y20,none),(tI,none)] [] λb f k=>j82 b.1 b.2.1 (λd=>k [wI d] [] [])
theorem jks:SO 26 jfm:=fK (np:=0) (Za6 jfR Zas) [jd7] (oI 122 0 @jiy oN) false Tryz.func26 λ_ _ _ _=>by kernel_rfl
def j3p (a:List qP) (b:List qP) (i:Int) (rec:(List qP)->Int->Res) (d:(List qP)->Res):Res:=bif decide (i<(nI (List.length a))) then bif inb i (List.length a) then jbu (nth (0,0,0,eS,[],[],0,eS,[],[],eS,eS) a i) λr=>bif inb i (List.length b) then rec (upd b i r) (Z9K (i+1)) else none else none else d b
def j8t (a:List qP):((List qP)×Int)->((List qP)×Int->Res)->(((List qP)->Res))->Res:=λv rec q=>j3p a v.1 v.2 (λb i=>rec (b,i)) q
def jjn (a:List qP) (n:Nat) (b:List qP) (i:Int) (d:(List qP)->Res):Res:=Z1f (j8t a) n (b,i) (d)
def jda:Z1d Unit:=NdL 23 23 [.R 0 y20 .S,.R 3 y20 .O,.I 4] [] (λb f=>(b.2.1,b.2.2.1)) (λb v=>(b.1,v.1,v.2,())) (λf v=>()) (λb f=>j8t b.1) λb f g=>((λd=>g (.exit 0) [(3,v1 y20 d .O)] []))
theorem jiB:CN 0 58 Tryz.f28 jda:=lK (Za6 jfT Zas) [] oN ([],[]) [(0,[3],[])] ([],[]) λ_ _ _ _ _=>by kernel_rfl
def j4u (a:List qP) (d:(List qP)->Res):Res:=bif Z9I (nI (List.length a)) (nI (List.length a)) then jjn a Z1c (Z9h (nI (List.length a)) (0,0,0,eS,[],[],0,eS,[],[],eS,eS)) 0 λb=>d b else none
def jfp:Sig Unit:=sg [.borrow y20 false] [false] [(y20,none)] [] λd f k=>j4u d.1 (λb=>k [w1 y20 b .O] [] [])
theorem jkv:SO 28 jfp:=fK (np:=0) (Za6 jfT Zas) [jda] (oI 58 0 @jiB oN) false Tryz.func28 λ_ _ _ _=>by kernel_rfl
def j3j (a:List qP) (b:List qP) (i:Int) (rec:Int->Res) (d:Unit->Res) (f:Unit->Res):Res:=bif decide (i<(nI (List.length a))) then bif inb i (List.length a) then bif inb i (List.length b) then jbq (nth (0,0,0,eS,[],[],0,eS,[],[],eS,eS) a i) (nth (0,0,0,eS,[],[],0,eS,[],[],eS,eS) b i) λr=>bif !r then f () else rec (Z9K (i+1)) else none else none else d ()
def jc0 (a:List qP) (b:List qP):Int->(Int->Res)->((Unit->Res)×(Unit->Res))->Res:=λv rec q=>j3j a b v (λi=>rec (i)) q.1 q.2
def je4 (a:List qP) (b:List qP) (n:Nat) (i:Int) (d:Unit->Res) (f:Unit->Res):Res:=Z1f (jc0 a b) n (i) (d,f)
def jd4:Z1d Unit:=NdL 27 27 [.R 0 y20 .S,.R 1 y20 .S,.I 5] [] (λb d=>(b.2.2.1)) (λb v=>(b.1,b.2.1,v,())) (λd v=>()) (λb d=>jc0 b.1 b.2.1) λb d f=>((λ_=>f (.exit 0) [] []),(λ_=>f .ret [(4,vB false)] []))
theorem jiv:CN 0 58 Tryz.f30 jd4:=lK (Za6 jfP Zas) [] oN ([],[]) [(0,[],[])] ([4],[]) λ_ _ _ _ _=>by kernel_rfl
def j7Z (a:List qP) (b:List qP) (d:Bool->Res):Res:=bif ((nI (List.length a)) != (nI (List.length b))) then d false else je4 a b Z1c 0 (λ_=>d true) (λ_=>d false)
def jfj:Sig Unit:=sg [.look y20 false,.look y20 false] [false] [(y20,none),(y20,none)] [] λb f k=>j7Z b.1 b.2.1 (λd=>k [wB d] [] [])
theorem jkp:SO 30 jfj:=fK (np:=0) (Za6 jfP Zas) [jd4] (oI 58 0 @jiv oN) false Tryz.func30 λ_ _ _ _=>by kernel_rfl
end
end Go.PI.G
namespace Go.PI.G
open Go Go.PI Go.Proofs
open Go.Code (pl pr)
noncomputable def j23 (d:List qP) (b:Int) (f:Bool->Res):Res:=j82 d 1048576 λr=>bif decide (r<0) then f true else j4u d λh=>j6p h b λi=>j4u d λg=>j6h g b λj=>bif (j != i) then f false else j4u d λk=>j7Z g k λl=>bif !l then f false else f true
noncomputable def j1o:Sig Unit:=⟨[.borrow y20 false,.borrow tI false],[false],λvals ext k=>av vals y20 λd vals=>av vals tI λb vals=>nl vals<|nl ext<|j23 d b (λf=>k [wB f] [] [])⟩
theorem jeu:Z17 Tryz.prog 6 j1o:=jph (np:=0) follows j2j (Za6 jks (Za6 jkv (Za6 jkp (Za6 jkx (Za6 jkj Zas))))) [] oN false Tryz.func6 λ_ _ k _ h=>aV h λ_ _ _ _ _ h=>aV h λ_ _ _ _ _ h=>nL h λ_ h=>nL h λ_ h=>by subst_vars;exact .trans (by delta j23 jfm jfp jfr jfh jfj;refine gz j82 λ_ b=>gz j4u λ_ d=>gz j6p λ_ f=>gz j6h λ_ g=>gz j7Z λ_ i=> ?_;rewrite [<-b,<-d,<-f,<-g,<-i];kernel_rfl) h
end Go.PI.G
namespace Go.PI.G
open Go Go.PI
abbrev V:=Int×Int×ByteArray
theorem jaI (s:ByteArray):(Z1n s).length=s.size:=by unfold Z1n;simp
theorem j09 (a b:ByteArray):sEq a b=true↔a=b:=by
 unfold sEq
 rw [beq_iff_eq]
 constructor
 ·intro h
  rw [ByteArray.ext_iff]
  have d:a.toList=a.data.toList:=by rw [ByteArray.toList_eq]
  have f:b.toList=b.data.toList:=by rw [ByteArray.toList_eq]
  rw [d,f] at h
  exact Array.toList_inj.1 h
 ·rintro rfl;rfl
def jlT (n:Int):Bool:=decide (-1099511627775<=n/\n<=1099511627775)
def j0l (v:V):Bool:=
 bif v.1==0 then (v.2.1==0)&&sEq v.2.2 eS
 else bif v.1==1 then ((v.2.1==0)||(v.2.1==1))&&sEq v.2.2 eS
 else bif v.1==2 then jlT v.2.1&&sEq v.2.2 eS
 else bif v.1==3 then (v.2.1==0)&&decide (nI v.2.2.size<=30)
 else false
theorem jo6 (x:Int):decide (0<=x/\x<=1)=((x==0)||(x==1)):=by
 by_cases h:0<=x/\x<=1
 ·rw [decide_eq_true h]
  have:x=0\/x=1:=by omega
  rcases this with rfl | rfl<;>rfl
 ·rw [decide_eq_false h]
  have b:(x==0)=false:=by simp;omega
  have d:(x==1)=false:=by simp;omega
  rw [b,d];rfl
theorem jeS {v:V} (h:j0l v=true):v=(0,0,eS)\/(∃ n,(n=0\/n=1)/\v=(1,n,eS))\/(∃ n,(-1099511627775<=n/\n<=1099511627775)/\v=(2,n,eS))\/∃ s:ByteArray,s.size<=30/\v=(3,0,s):=by
 obtain ⟨t,n,s⟩:=v
 unfold j0l at h
 simp only at h
 cases d:t==0
 ·cases f:t==1
  ·cases g:t==2
   ·cases i:t==3
    ·rw [d,f,g,i] at h;cases h
    ·rw [d,f,g,i] at h
     simp only [cond_false,cond_true,Bool.and_eq_true,beq_iff_eq,decide_eq_true_eq] at h i
     obtain ⟨rfl,h⟩:=h
     subst i
     exact .inr (.inr (.inr ⟨s,by unfold nI at h;omega,rfl⟩))
   ·rw [d,f,g] at h
    simp only [cond_false,cond_true,Bool.and_eq_true,beq_iff_eq] at h g
    obtain ⟨h,b⟩:=h
    rw [j09] at b
    subst b;subst g
    exact .inr (.inr (.inl ⟨n,of_decide_eq_true h,rfl⟩))
  ·rw [d,f] at h
   simp only [cond_false,cond_true,Bool.and_eq_true,Bool.or_eq_true,beq_iff_eq] at h f
   obtain ⟨h,b⟩:=h
   rw [j09] at b
   subst b;subst f
   exact .inr (.inl ⟨n,h,rfl⟩)
 ·rw [d] at h
  simp only [cond_true,Bool.and_eq_true,beq_iff_eq] at h d
  obtain ⟨h,b⟩:=h
  rw [j09] at b
  subst b;subst d;subst h
  exact .inl rfl
theorem jon {v:V} (h:j0l v=true):v.2.2.size<=30:=by
 rcases jeS h with rfl | ⟨n,_,rfl⟩ | ⟨n,_,rfl⟩ | ⟨s,b,rfl⟩
 ·show (0:Nat)<=30;omega
 ·show (0:Nat)<=30;omega
 ·show (0:Nat)<=30;omega
 ·exact b
def be (n:Nat):Nat->List Int
 | 0=>[]
 | s+1=>((n / 256 ^ s % 256:Nat):Int)::be n s
theorem jnE (n:Nat):(s:Nat)->(be n s).length=s
 | 0=>rfl
 | s+1=>by simp [be,jnE n s]
noncomputable def wB (v:V):List Int:=
 bif v.1==1 then [1,v.2.1]
 else bif v.1==2 then 2::(bif decide (v.2.1<0) then 1 else 0)::be v.2.1.natAbs 6
 else bif v.1==3 then 3::nI v.2.2.size::Z1n v.2.2
 else [0]
theorem jpM {v:V} (h:j0l v=true):(wB v).length<=32:=by
 rcases jeS h with rfl | ⟨n,_,rfl⟩ | ⟨n,_,rfl⟩ | ⟨s,b,rfl⟩
 ·show (1:Nat)<=32;omega
 ·show (2:Nat)<=32;omega
 ·show (2::(bif decide (n<0) then 1 else 0)::be n.natAbs 6).length<=32
  simp [jnE]
 ·show (3::nI s.size::Z1n s).length<=32
  simp [jaI];omega
theorem ja7:(l:List V)->(∀ v∈l,j0l v=true)->(l.flatMap wB).length<=32 * l.length
 | [],_=>by simp
 | v::l,h=>by
  have d:=jpM (h v (by simp))
  have f:=ja7 l λv b=>h v (List.mem_cons_of_mem _ b)
  simp only [List.flatMap_cons,List.length_append,List.length_cons]
  omega
end Go.PI.G
set_option linter.unusedSimpArgs false
namespace Go.PI.G
open Go Go.PI Go.Proofs
theorem j5H (x b d:Int) (k:Bool->Res):j0f x b d k=k (decide (b<=x/\x<=d)):=by
 unfold j0f
 by_cases h:x>=b
 ·rw [decide_eq_true h,cond_true]
  congr 1
  exact decide_eq_decide.2 (by omega)
 ·rw [decide_eq_false h,cond_false]
  congr 1
  exact (decide_eq_false (by omega)).symm
end Go.PI.G
namespace Go.PI.G
open Go Go.PI Go.Proofs
theorem jo0 (n:Int) (k:Bool->Res):jdz n k=k (jlT n):=j5H n _ _ k
theorem j7v (v:V) (k:Bool->Res):j18 v k=k (j0l v):=by
 unfold j18 j0l
 cases v.1==0
 ·cases v.1==1
  ·cases v.1==2
   ·cases v.1==3
    ·rfl
    ·cases v.2.1==0<;>rfl
   ·rw [cond_false,cond_false,cond_true,jo0]
    cases jlT v.2.1<;>rfl
  ·cases v.2.1==0
   ·cases v.2.1==1<;>rfl
   ·rfl
 ·cases v.2.1==0<;>rfl
theorem j7l (v:V) (k:Bool->Res):j0T v k=k (j0l v):=by
 unfold j0T j0l
 simp only [j5H,jo6]
 cases v.1==0
 ·cases v.1==1
  ·cases v.1==2
   ·cases v.1==3
    ·rfl
    ·cases v.2.1==0<;>rfl
   ·rw [cond_false,cond_false,cond_true,cond_false,cond_false,cond_true]
    show (bif jlT v.2.1 then _ else _)=_
    cases jlT v.2.1<;>rfl
  ·cases v.2.1==0
   ·cases v.2.1==1<;>rfl
   ·rfl
 ·cases v.2.1==0<;>rfl
end Go.PI.G
namespace Go.PI.G
noncomputable section
open Go Go.PI
def msr:(τ:Ty)->El τ->Nat
 | .str,s=>ByteArray.size s
 | .slice e,l=>List.length (α:=El e) l+(List.map (msr e) l).sum
 | .pair a b,x=>msr a x.1+msr b x.2
 | .int _,_=>0
 | .bool,_=>0
 | .unit,_=>0
def wgt:(τ:Ty)->El τ->Nat
 | .str,_=>1
 | .slice e,l=>(List.map (wgt e) l).sum
 | .pair a b,x=>wgt a x.1+wgt b x.2
 | .int _,_=>1
 | .bool,_=>1
 | .unit,_=>0
theorem j8Z {a b:Ty} {x:El (.pair a b)}:msr a x.1<=msr (.pair a b) x:=Nat.le_add_right _ _
theorem j07 {a b:Ty} {x:El (.pair a b)}:msr b x.2<=msr (.pair a b) x:=Nat.le_add_left _ _
def dgt (x:Int):ByteArray:=Z3B [wu8 (Z9K (48+x))]
def jpI (n:Nat):ByteArray:=if h:n<10 then dgt n else jpI (n / 10)++dgt ((n % 10:Nat):Int)
termination_by n
decreasing_by omega
def mT (k:Int):ByteArray:=(⟨#[109]⟩:ByteArray)++jpI k.toNat
def mk:(τ:Ty)->El τ->Int->El τ
 | .str,_,k=>mT k
 | .slice e,l,k=>mkL (wgt e) (mk e) l k
 | .pair a b,x,k=>(mk a x.1 k,mk b x.2 (k+(wgt a x.1:Int)))
 | .int .u8,_,k=>wu8 k
 | .int _,_,k=>k
 | .bool,_,k=>(Int.tmod k 3==0)
 | .unit,x,_=>x
theorem jk4 (e:Ty) (l:List (El e)):msr (.slice e) l=l.length+(l.map (msr e)).sum:=rfl
theorem j0M {e:Ty} {l:List (El e)} {n:Nat} (h:msr (.slice e) l<=n):l.length<=n:=by
 have:msr (.slice e) l=l.length+(l.map (msr e)).sum:=rfl
 omega
theorem j1Q {e:Ty} {l:List (El e)} {n:Nat} (h:msr (.slice e) l<=n) {x:El e} (b:x∈l):msr e x<=n:=by
 have d:msr (.slice e) l=l.length+(l.map (msr e)).sum:=rfl
 have:=Z9H (msr e) l x b
 omega
end
end Go.PI.G
namespace Go.PI.G
open Go Go.PI
theorem jp6 {left:Int} (h:0<=left):szR left 0=left:=by unfold szR;rw [if_pos (by omega)];omega
theorem jj1 {left:Int} {n rest:Nat} {F:Int->Res} {k:Int->Res} (f:0<=left) (g:left<=1048576) (d:n<=maxLen) (b:(n:Int)<=left->F (left-n)=k (szR (left-n) rest)) :
  (bif decide (Z9K (left-nI n)<0) then k (-1) else F (Z9K (left-nI n)))=k (szR left (n+rest)):=by
 unfold maxLen at d
 rw [ZaH (by unfold nI;omega) (by unfold nI;omega)]
 unfold nI
 by_cases h:(n:Int)<=left
 ·rw [Za4 (by omega),cond_false,b h,Zak h]
 ·rw [Za5 (by omega),cond_true,Zal h]
theorem jem {left:Int} {k:Int->Res} (b:0<=left):k left=k (szR left 0):=by rw [jp6 b]
theorem j00 {i n:Nat} (h:i<n):inb (i:Int) n=true:=ZaK (by omega) (by omega)
theorem j01 {n:Int} (h: -9223372036854775808<=n/\n<9223372036854775808):Z9K n=n:=ZaH h.1 h.2
end Go.PI.G
namespace Go.PI.G
noncomputable section
open Go Go.PI
abbrev C:=ByteArray×Int×Bool×Bool×V
abbrev T:=ByteArray×List C×List ByteArray
abbrev DB:=List T×List (List (List V))
abbrev yV:Ty:= .pair (.int .i64) (.pair (.int .i64) .str)
abbrev yC:Ty:= .pair .str (.pair (.int .i64) (.pair .bool (.pair .bool yV)))
abbrev yT:Ty:= .pair .str (.pair (.slice yC) (.slice .str))
abbrev yDB:Ty:= .pair (.slice yT) (.slice (.slice (.slice yV)))
abbrev zV:V:=(0,0,eS)
abbrev zC:C:=(eS,0,false,false,0,0,eS)
abbrev zT:T:=(eS,[],[])
theorem jbo {α:Type} (p:α->Bool) (l:List α): -1<=Z9F p l/\Z9F p l<(l.length:Int):=by
 unfold Z9F
 cases h:l.findIdx? p with
 | none=>simp only [];omega
 | some i=>
  have:=(List.findIdx?_eq_some_iff_findIdx_eq.1 h).1
  simp only [];omega
theorem jbn {α:Type} {f:Nat->α->Bool}:(l:List α)->(i:Nat)->Z71 f i l=false->∀ (j:Nat) (h:j<l.length),f (i+j) l[j]=false
 | [],_,_,j,h=>by simp at h
 | x::l,i,h,j,b=>by
  simp only [Z71,Bool.or_eq_false_iff] at h
  cases j with
  | zero=>simpa using h.1
  | succ j=>
   have:=jbn l (i+1) h.2 j (by simpa using b)
   rw [show i+(j+1)=i+1+j by omega]
   simpa using this
def j0j (s:ByteArray):Bool:= !((Z1n s).any λb=>decide (b<97)||decide (b>122))&&(decide (1<=s.size)&&decide (s.size<=8))
def veq (a b:V):Bool:=(a.1==b.1)&&((a.2.1==b.2.1)&&sEq a.2.2 b.2.2)
theorem jen (a b:V):veq a b=true↔a=b:=by
 obtain ⟨d,f,g⟩:=a
 obtain ⟨h,i,j⟩:=b
 unfold veq
 simp only [Bool.and_eq_true,beq_iff_eq,j09,Prod.mk.injEq]
def vlt (a b:V):Bool:=j0l a&&(j0l b&&(bif a.1 != b.1 then decide (a.1<b.1) else bif a.2.1 != b.2.1 then decide (a.2.1<b.2.1) else sLt a.2.2 b.2.2))
def jgE (v:V):Bool:=(v.1==0)&&((v.2.1==0)&&sEq v.2.2 eS)
def j0Q (c:C):Bool:=j0j c.1&&(decide (1<=c.2.1/\c.2.1<=3)&&(j0l c.2.2.2.2&&(bif c.2.2.2.1 then (c.2.2.2.2.1==c.2.1)||((c.2.2.2.2.1==0)&& !c.2.2.1) else jgE c.2.2.2.2)))
def j02 (l:List C) (n:ByteArray):Int:=Z9F (λc=>sEq c.1 n) l
theorem j7W (l:List C) (n:ByteArray): -1<=j02 l n/\j02 l n<(l.length:Int):=jbo _ _
theorem jom:j0l (0,0,eS)=true:=by
 show (((0:Int)==0)&&sEq eS eS)=true
 rw [Zah];rfl
theorem jnl:jgE (0,0,eS)=true:=by
 show (((0:Int)==0)&&(((0:Int)==0)&&sEq eS eS))=true
 rw [Zah];rfl
def j11 (l:List C):Int->List ByteArray->Bool
 | _,[]=>true
 | b,k::ks=> !decide (j02 l k<=b)&&((nth zC l (j02 l k)).2.2.1&&j11 l (j02 l k) ks)
def j41 (l:List C):Bool:= !Z71 (λi c=> !j0Q c||(j02 l c.1 != (i:Int))) 0 l
def j03 (t:T):Bool:=(j0j t.1&&(decide (1<=t.2.1.length)&&(decide (t.2.1.length<=8)&&decide (1<=t.2.2.length))))&&(j41 t.2.1&&j11 t.2.1 (-1) t.2.2)
def j04 (l:List T) (n:ByteArray):Int:=Z9F (λt=>sEq t.1 n) l
def j1N (c:List T):Bool:=decide (c.length<=6)&& !Z71 (λi t=> !j03 t||(decide (0<i)&&sGe (nth zT c ((i:Int)-1)).1 t.1)) 0 c
def j39 (c:C) (v:V):Bool:=j0l v&&((v.1==c.2.1)||((v.1==0)&& !c.2.2.1))
def j0k (l:List C) (r:List V):Bool:=decide (r.length=l.length)&& !Z71 (λi c=> !j39 c (nth zV r (i:Int))) 0 l
def j05 (t:T) (r:List V):List V:=t.2.2.map λk=>nth zV r (j02 t.2.1 k)
def klt:List V->List V->Bool
 | [],[]=>false
 | [],_::_=>true
 | _::_,[]=>false
 | x::xs,y::ys=>bif veq x y then klt xs ys else vlt x y
def j08 (t:T) (l:List (List V)):Bool:=j03 t&&(decide (l.length<=60)&& !Z71 (λi r=> !j0k t.2.1 r||(decide (0<i)&& !klt (j05 t (nth [] l ((i:Int)-1))) (j05 t r))) 0 l)
def dbB (d:DB):Bool:=j1N d.1&&(decide (d.2.length=d.1.length)&& !Z71 (λi t=> !j08 t (nth [] d.2 (i:Int))) 0 d.1)
theorem j1u {t:T} (h:j03 t=true):j0j t.1=true/\1<=t.2.1.length/\t.2.1.length<=8/\1<=t.2.2.length/\j41 t.2.1=true/\j11 t.2.1 (-1) t.2.2=true:=by
 unfold j03 at h
 simp only [Bool.and_eq_true,decide_eq_true_eq] at h
 exact ⟨h.1.1,h.1.2.1,h.1.2.2.1,h.1.2.2.2,h.2.1,h.2.2⟩
theorem j12 {l:List C}:(ks:List ByteArray)->(b:Int)-> -1<=b->j11 l b ks=true->∀ k∈ks,0<=j02 l k/\j02 l k<(l.length:Int)
 | [],_,_,_,k,d=>by cases d
 | q::ks,b,i,h,k,d=>by
  simp only [j11,Bool.and_eq_true,Bool.not_eq_true',decide_eq_false_iff_not] at h
  have f:=(jbo (λc:C=>sEq c.1 q) l).2
  have g:0<=j02 l q:=by omega
  rcases List.mem_cons.1 d with rfl | d
  ·exact ⟨g,f⟩
  ·exact j12 ks (j02 l q) (by omega) h.2.2 k d
theorem jpr {c:C} (h:j0Q c=true):1<=c.2.1/\c.2.1<=3:=by
 unfold j0Q at h
 simp only [Bool.and_eq_true,decide_eq_true_eq] at h
 exact h.2.1
theorem jjW {l:List C} (h:j41 l=true) (i:Nat) (b:i<l.length):j0Q l[i]=true:=by
 unfold j41 at h
 have:=jbn l 0 (by simpa using h) i b
 simp only [Bool.or_eq_false_iff,Bool.not_eq_false'] at this
 exact this.1
end
end Go.PI.G
namespace Go.PI.G
open Go Go.PI Go.Proofs
theorem jnF (s:ByteArray) (i:Nat) (h:i<(Z1n s).length):bt s (i:Int)=(Z1n s)[i]:=by
 have g:=jaI s
 have d:i<s.data.size:=by
  have:i<s.size:=by omega
  exact this
 have f:(Z1n s)[i]=((s.data.toList.map λb:UInt8=>(b.toNat:Int))[i]'(by simpa using d)):=rfl
 rw [f,List.getElem_map]
 unfold bt
 simp [Array.getElem?_eq_getElem d]
theorem jpe (s:ByteArray) (x:Bool) (k:Bool->Res):(bif x then k false else (bif decide ((nI (ByteArray.size s))>=1) then k (decide ((nI (ByteArray.size s))<=8)) else k false))=k (!x&&(decide (1<=s.size)&&decide (s.size<=8))):=by
 cases x
 ·unfold nI
  by_cases b:1<=s.size
  ·rw [cond_false,decide_eq_true (show (s.size:Int)>=1 by omega),cond_true,decide_eq_true b]
   congr 1
   by_cases d:s.size<=8
   ·rw [decide_eq_true (show (s.size:Int)<=8 by omega),decide_eq_true d];rfl
   ·rw [decide_eq_false (show ¬ (s.size:Int)<=8 by omega),decide_eq_false d];rfl
  ·rw [cond_false,decide_eq_false (show ¬ (s.size:Int)>=1 by omega),cond_false,decide_eq_false b];rfl
 ·rfl
theorem j4x (s:ByteArray) (h:s.size<=LIM) (k:Bool->Res):j0y s k=k (j0j s):=by
 unfold j0y jeg
 have g:=jaI s
 have:=Za2 (Z1n s) (λi=>i) (λb=>decide (b<97)||decide (b>122)) (step:=j8A s) ((λ(_:Unit)=>bif decide ((nI (ByteArray.size s))>=1) then k (decide ((nI (ByteArray.size s))<=8)) else k false),(λ(_:Unit)=>k false)) (bif decide ((nI (ByteArray.size s))>=1) then k (decide ((nI (ByteArray.size s))<=8)) else k false) (k false) (by omega) (λi rec f=>by
  show j3y s _ _ _ _=_
  unfold j3y
  unfold LIM at h
  have d:i<s.size:=by omega
  rw [ZaQ d,cond_true,j00 d,cond_true,cond_true,jnF s i f,j01 (n:=(i:Int)+1) (by omega)]
  cases decide ((Z1n s)[i]<97)
  ·cases decide ((Z1n s)[i]>122)<;>rfl
  ·rfl) (λrec=>by
  show j3y s _ _ _ _=_
  unfold j3y
  rw [g,ZaP,cond_false])
 refine this.trans ?_
 exact jpe s _ k
theorem j4t (s:ByteArray) (h:s.size<=LIM) (k:Bool->Res):j0p s k=k (j0j s):=by
 unfold j0p jab
 have j:=jaI s
 have:=Za2 (Z1n s) (λi=>i) (λb=>decide (b<97)||decide (b>122)) (step:=j5L s) ((λ(_:Unit)=>j0f (nI (ByteArray.size s)) 1 8 λ(r:Bool)=>k r),(λ(_:Unit)=>k false)) (j0f (nI (ByteArray.size s)) 1 8 λ(r:Bool)=>k r) (k false) (by omega) (λi rec g=>by
  show j3e s _ _ _ _=_
  unfold j3e
  unfold LIM at h
  have d:i<s.size:=by omega
  rw [ZaQ d,cond_true,j00 d,cond_true,cond_true,jnF s i g,j01 (n:=(i:Int)+1) (by omega)]
  cases decide ((Z1n s)[i]<97)
  ·cases decide ((Z1n s)[i]>122)<;>rfl
  ·rfl) (λrec=>by
  show j3e s _ _ _ _=_
  unfold j3e
  rw [j,ZaP,cond_false])
 refine this.trans ?_
 rw [j5H]
 have f:decide (1<=nI s.size/\nI s.size<=8)=(decide (1<=s.size)&&decide (s.size<=8)):=by
  rw [<-Bool.decide_and]
  exact decide_eq_decide.2 (by unfold nI;omega)
 rw [f]
 unfold j0j
 cases (Z1n s).any λb=>decide (b<97)||decide (b>122)<;>rfl
end Go.PI.G
namespace Go.PI.G
open Go Go.PI Go.Proofs
theorem jiU (c:C) (h:c.1.size<=LIM) (k:Bool->Res):j4j c k=k (j0Q c):=by
 obtain ⟨n,ty,w,r,d⟩:=c
 unfold j4j j0Q
 dsimp only at h ⊢
 rw [j4x n h,j7v]
 cases j0j n
 ·rfl
 ·rw [Bool.not_true,cond_false,Bool.true_and]
  by_cases p:1<=ty/\ty<=3
  ·rw [decide_eq_false (show ¬ ty<1 by omega),cond_false,decide_eq_false (show ¬ ty>3 by omega),cond_false,decide_eq_true p,Bool.true_and]
   cases r
   ·rw [Bool.not_false,cond_true,cond_false]
    have:j0l d=false->jgE d=false:=λj=>by
     cases i:jgE d with
     | false=>rfl
     | true=>
      unfold jgE at i
      simp only [Bool.and_eq_true,beq_iff_eq,j09] at i
      have:d=(0,0,eS):=by
       obtain ⟨a,b,c⟩:=d
       simp only at i
       rw [i.1,i.2.1,i.2.2]
      rw [this,jom] at j
      cases j
    cases j:j0l d
    ·rw [Bool.false_and]
     exact congrArg k (this j)
    ·rfl
   ·rw [Bool.not_true,cond_false,cond_true]
    cases j:j0l d
    ·rfl
    ·rw [cond_true,Bool.true_and]
     have g:(d.1==0)=true->((d.1==0)&&((d.2.1==0)&&sEq d.2.2 eS))=true:=λf=>by
      rcases jeS j with rfl | ⟨m,_,rfl⟩ | ⟨m,_,rfl⟩ | ⟨m,_,rfl⟩
      ·exact jnl
      ·cases f
      ·cases f
      ·cases f
     cases f:d.1==0
     ·rw [Bool.false_and,cond_false]
      cases d.1==ty<;>rfl
     ·have:=g f
      rw [f] at this
      rw [this,cond_true,cond_true]
      have l:(d.1==ty)=false:=by
       simp only [beq_iff_eq] at f
       rw [f];simp;omega
      rw [l,Bool.false_or,Bool.true_and]
  ·rw [decide_eq_false p]
   by_cases q:ty<1
   ·rw [decide_eq_true q];rfl
   ·rw [decide_eq_false q,cond_false,decide_eq_true (show ty>3 by omega)];rfl
theorem jig (c:C) (h:c.1.size<=LIM) (k:Bool->Res):j44 c k=k (j0Q c):=by
 obtain ⟨n,ty,f,d,b⟩:=c
 unfold j44 j0Q
 dsimp only at h ⊢
 rw [j4t n h,j5H,j7l]
 cases j0j n
 ·rfl
 ·cases decide (1<=ty/\ty<=3)
  ·rfl
  ·cases j0l b
   ·rfl
   ·cases d
    ·rfl
    ·cases b.1==ty
     ·cases b.1==0<;>rfl
     ·rfl
theorem j5F (t:T) (n:ByteArray) (h:t.2.1.length<=LIM) (k:Int->Res):j0B t n k=k (j02 t.2.1 n):=by
 unfold j0B jfw
 refine Z9S t.2.1 (λi=>i) (λc=>sEq c.1 n) (step:=j9z n t.2.1 (nI t.2.1.length)) _ k h (λi rec b=> ?_) (λrec=> ?_)
 ·show j4i n _ _ _ _ _ _=_
  unfold j4i
  unfold LIM at h
  rw [ZaQ b,cond_true,j00 b,cond_true,Zay _ _ _ b,j01 (n:=(i:Int)+1) (by omega)]
 ·show j4i n _ _ _ _ _ _=_
  unfold j4i
  rw [ZaP,cond_false]
theorem j6T (t:T) (n:ByteArray) (h:t.2.1.length<=LIM) (k:Int->Res):j0e t n k=k (j02 t.2.1 n):=by
 unfold j0e j5P j7A
 refine Z9S t.2.1 (λi=>i) (λc=>sEq c.1 n) (step:=j2R t.2.1 n (nI t.2.1.length)) _ k h (λi rec b=> ?_) (λrec=> ?_)
 ·show j0J _ n _ _ _ _ _=_
  unfold j0J jdp
  unfold LIM at h
  rw [ZaQ b,cond_true,j00 b,cond_true,Zay _ _ _ b,j01 (n:=(i:Int)+1) (by omega)]
 ·show j0J _ n _ _ _ _ _=_
  unfold j0J
  rw [ZaP,cond_false]
theorem j2c {t:T} (h:msr yT t<=1048576):t.1.size<=1048576/\t.2.1.length<=1048576/\t.2.2.length<=1048576/\(∀ c∈t.2.1,c.1.size<=1048576)/\∀ x∈t.2.2,x.size<=1048576:=by
 have i:msr yT t=t.1.size+(msr (.slice yC) t.2.1+msr (.slice .str) t.2.2):=rfl
 have b:msr (.slice yC) t.2.1<=1048576:=by omega
 have d:msr (.slice .str) t.2.2<=1048576:=by omega
 refine ⟨by omega,j0M b,j0M d,λc f=> ?_,λx g=>j1Q d g⟩
 have:=j1Q b f
 have j:msr yC c=c.1.size+msr (.pair (.int .i64) (.pair .bool (.pair .bool yV))) c.2:=rfl
 omega
noncomputable def tSm (t:T):Prop:=t.1.size<=1048576/\t.2.1.length<=1048576/\t.2.2.length<=1048576/\(∀ c∈t.2.1,c.1.size<=1048576)/\∀ x∈t.2.2,x.size<=1048576
theorem jl7 (t:T) (h:tSm t) (a b:Unit->Res):j6M t.2.1 (nI t.2.1.length) t Z1c 0 a b=bif j41 t.2.1 then a () else b ():=by
 have f:=h
 obtain ⟨j,k,l,g,m⟩:=f
 unfold j6M
 have:=Z9P t.2.1 (λi=>i) (λi c=> !j0Q c||(j02 t.2.1 c.1 != (i:Int))) (step:=j2G t.2.1 (nI t.2.1.length) t) (a,b) (a ()) (b ()) (by unfold LIM;omega) (λi rec d=>by
  show j1z _ _ t _ _ _ _=_
  unfold j1z
  rw [ZaQ d,cond_true,j00 d,cond_true,Zay _ _ _ d,jiU _ (by have:=g _ (List.getElem_mem d);unfold LIM;omega),j5F t _ (by unfold LIM;omega),j01 (n:=(i:Int)+1) (by omega)]
  cases j0Q t.2.1[i]
  ·rfl
  ·cases j02 t.2.1 t.2.1[i].1 != (i:Int)<;>rfl) (λrec=>by
  show j1z _ _ t _ _ _ _=_
  unfold j1z
  rw [ZaP,cond_false])
 refine this.trans ?_
 unfold j41
 cases Z71 (λi c=> !j0Q c||(j02 t.2.1 c.1 != (i:Int))) 0 t.2.1<;>rfl
theorem jkG (t:T) (h:tSm t) (a b:Unit->Res):j6A t.2.1 (nI t.2.1.length) t Z1c 0 a b=bif j41 t.2.1 then a () else b ():=by
 have f:=h
 obtain ⟨j,k,l,g,m⟩:=f
 unfold j6A
 have:=Z9P t.2.1 (λi=>i) (λi c=> !j0Q c||(j02 t.2.1 c.1 != (i:Int))) (step:=j2w t.2.1 (nI t.2.1.length) t) (a,b) (a ()) (b ()) (by unfold LIM;omega) (λi rec d=>by
  show j1x _ _ t _ _ _ _=_
  unfold j1x
  rw [ZaQ d,cond_true,j00 d,cond_true,Zay _ _ _ d,jig _ (by have:=g _ (List.getElem_mem d);unfold LIM;omega),j6T t _ (by unfold LIM;omega),j01 (n:=(i:Int)+1) (by omega)]
  cases j0Q t.2.1[i]
  ·rfl
  ·cases j02 t.2.1 t.2.1[i].1 != (i:Int)<;>rfl) (λrec=>by
  show j1x _ _ t _ _ _ _=_
  unfold j1x
  rw [ZaP,cond_false])
 refine this.trans ?_
 unfold j41
 cases Z71 (λi c=> !j0Q c||(j02 t.2.1 c.1 != (i:Int))) 0 t.2.1<;>rfl
noncomputable def j7p (l:List C) (b:Int) (k:ByteArray):Except Unit Int:=bif decide (j02 l k<=b) then .error () else bif !(nth zC l (j02 l k)).2.2.1 then .error () else .ok (j02 l k)
theorem jg6 (l:List C):(ks:List ByteArray)->(i:Nat)->(b:Int)->(∃ z,Z1S (λ_ b k=>j7p l b k) i ks b= .ok z/\j11 l b ks=true)\/(Z1S (λ_ b k=>j7p l b k) i ks b= .error ()/\j11 l b ks=false)
 | [],_,b=> .inl ⟨b,rfl,rfl⟩
 | k::ks,i,b=>by
  have d:=jg6 l ks (i+1) (j02 l k)
  simp only [Z1S,j11,j7p] at d ⊢
  cases decide (j02 l k<=b)
  ·cases (nth zC l (j02 l k)).2.2.1
   ·exact .inr ⟨rfl,rfl⟩
   ·exact d
  ·exact .inr ⟨rfl,rfl⟩
theorem jl8 (t:T) (h:tSm t) (a b:Unit->Res):j6N t.2.2 (nI t.2.2.length) t Z1c (-1) 0 a b=bif j11 t.2.1 (-1) t.2.2 then a () else b ():=by
 have q:=h
 obtain ⟨w,y,A,B,C⟩:=q
 unfold j6N
 have:=Z3Z t.2.2 (λi d=>(d,i)) (λ_ d k=>j7p t.2.1 d k) (λ_ d=> -1<=d) (step:=j4H t.2.2 (nI t.2.2.length) t) (a,b) (λ_=>a ()) (λ_=>b ()) (-1) (by unfold LIM;omega) (by omega) (λi d m l p g=>by
  unfold j7p at g
  have:=(j7W t.2.1 t.2.2[i]).1
  cases f:decide (j02 t.2.1 t.2.2[i]<=d)
  ·rw [f,cond_false] at g
   cases j:(nth zC t.2.1 (j02 t.2.1 t.2.2[i])).2.2.1
   ·rw [j] at g;cases g
   ·rw [j] at g
    cases g
    exact this
  ·rw [f] at g;cases g) (λi d rec l p=>by
  show j2H _ _ t _ _ _ _ _=_
  unfold j2H
  dsimp only
  rw [ZaQ l,cond_true,j00 l,cond_true,Zay _ _ _ l,j5F t _ (by unfold LIM;omega),j01 (n:=(i:Int)+1) (by omega)]
  unfold j7p
  by_cases f:j02 t.2.1 t.2.2[i]<=d
  ·rw [decide_eq_true f];rfl
  ·have r:=(j7W t.2.1 t.2.2[i]).2
   rw [decide_eq_false f,cond_false,cond_false,ZaK (by omega) r,cond_true]
   cases (nth zC t.2.1 (j02 t.2.1 t.2.2[i])).2.2.1<;>rfl) (λd rec _=>by
  show j2H _ _ t _ _ _ _ _=_
  unfold j2H
  dsimp only
  rw [ZaP,cond_false])
 refine this.trans ?_
 rcases jg6 t.2.1 t.2.2 0 (-1) with ⟨z,f,j⟩ | ⟨f,j⟩<;>rw [f,j]<;>rfl
theorem jkH (t:T) (h:tSm t) (a b:Unit->Res):j6B t.2.2 (nI t.2.2.length) t Z1c (-1) 0 a b=bif j11 t.2.1 (-1) t.2.2 then a () else b ():=by
 have q:=h
 obtain ⟨w,y,A,B,C⟩:=q
 unfold j6B
 have:=Z3Z t.2.2 (λi d=>(d,i)) (λ_ d k=>j7p t.2.1 d k) (λ_ d=> -1<=d) (step:=j4C t.2.2 (nI t.2.2.length) t) (a,b) (λ_=>a ()) (λ_=>b ()) (-1) (by unfold LIM;omega) (by omega) (λi d m l p g=>by
  unfold j7p at g
  have:=(j7W t.2.1 t.2.2[i]).1
  cases f:decide (j02 t.2.1 t.2.2[i]<=d)
  ·rw [f,cond_false] at g
   cases j:(nth zC t.2.1 (j02 t.2.1 t.2.2[i])).2.2.1
   ·rw [j] at g;cases g
   ·rw [j] at g
    cases g
    exact this
  ·rw [f] at g;cases g) (λi d rec l p=>by
  show j2x _ _ t _ _ _ _ _=_
  unfold j2x
  dsimp only
  rw [ZaQ l,cond_true,j00 l,cond_true,Zay _ _ _ l,j6T t _ (by unfold LIM;omega),j01 (n:=(i:Int)+1) (by omega)]
  unfold j7p
  by_cases f:j02 t.2.1 t.2.2[i]<=d
  ·rw [decide_eq_true f];rfl
  ·have r:=(j7W t.2.1 t.2.2[i]).2
   rw [decide_eq_false f,cond_false,cond_false,ZaK (by omega) r,cond_true]
   cases (nth zC t.2.1 (j02 t.2.1 t.2.2[i])).2.2.1<;>rfl) (λd rec _=>by
  show j2x _ _ t _ _ _ _ _=_
  unfold j2x
  dsimp only
  rw [ZaP,cond_false])
 refine this.trans ?_
 rcases jg6 t.2.1 t.2.2 0 (-1) with ⟨z,f,j⟩ | ⟨f,j⟩<;>rw [f,j]<;>rfl
theorem jp9 (t:T) (k:Bool->Res):j4p t k=j0y t.1 λw=>k (!(w&&(decide (1<=t.2.1.length)&&(decide (t.2.1.length<=8)&&decide (1<=t.2.2.length))))):=by
 unfold j4p
 congr 1
 funext w
 unfold nI
 cases w
 ·rfl
 ·rw [Bool.not_true,cond_false,Bool.true_and]
  by_cases b:1<=t.2.1.length
  ·rw [decide_eq_false (show ¬ (t.2.1.length:Int)<1 by omega),cond_false,decide_eq_true b,Bool.true_and]
   by_cases d:t.2.1.length<=8
   ·rw [decide_eq_false (show ¬ (t.2.1.length:Int)>8 by omega),cond_false,decide_eq_true d,Bool.true_and]
    congr 1
    by_cases f:1<=t.2.2.length
    ·rw [decide_eq_false (show ¬ (t.2.2.length:Int)<1 by omega),decide_eq_true f];rfl
    ·rw [decide_eq_true (show (t.2.2.length:Int)<1 by omega),decide_eq_false f];rfl
   ·rw [decide_eq_true (show (t.2.1.length:Int)>8 by omega),decide_eq_false d];rfl
  ·rw [decide_eq_true (show (t.2.1.length:Int)<1 by omega),decide_eq_false b];rfl
theorem jh6 (t:T) (h:tSm t) (k:Bool->Res):j0o t k=k (j03 t):=by
 have b:=h
 obtain ⟨d,f,g,i,j⟩:=b
 unfold j0o j03
 rw [jp9,j4x _ (by unfold LIM;omega),jl7 t h,jl8 t h]
 cases j0j t.1&&(decide (1<=t.2.1.length)&&(decide (t.2.1.length<=8)&&decide (1<=t.2.2.length)))
 ·rfl
 ·cases j41 t.2.1
  ·rfl
  ·cases j11 t.2.1 (-1) t.2.2<;>rfl
theorem jgX (t:T) (h:tSm t) (k:Bool->Res):j0C t k=k (j03 t):=by
 have d:=h
 obtain ⟨g,i,j,l,m⟩:=d
 unfold j0C j03
 rw [j4t _ (by unfold LIM;omega),j5H,jkG t h,jkH t h]
 have b:decide (1<=nI t.2.1.length/\nI t.2.1.length<=8)=(decide (1<=t.2.1.length)&&decide (t.2.1.length<=8)):=by
  rw [<-Bool.decide_and]
  exact decide_eq_decide.2 (by unfold nI;omega)
 have f:decide (nI t.2.2.length>0)=decide (1<=t.2.2.length):=decide_eq_decide.2 (by unfold nI;omega)
 rw [b,f]
 cases j41 t.2.1
 ·rw [Bool.false_and,Bool.and_false];rfl
 ·cases j11 t.2.1 (-1) t.2.2
  ·rw [Bool.and_false,Bool.and_false];rfl
  ·cases j0j t.1
   ·rfl
   ·cases decide (1<=t.2.1.length)
    ·rfl
    ·cases decide (t.2.1.length<=8)
     ·rfl
     ·cases decide (1<=t.2.2.length)<;>rfl
theorem jbz (t:T) (h:msr yT t<=1048576) (k:Bool->Res):j0o t k=k (j03 t):=jh6 t (j2c h) k
theorem jeC (t:T) (h:msr yT t<=1048576) (k:Bool->Res):j0C t k=k (j03 t):=jgX t (j2c h) k
theorem jls (c:List T) (i:Nat) (d:i<c.length) (b:c.length<=LIM) (x:Res) (y:Res):(bif decide ((i:Int)>0) then (bif inb (Z9K ((i:Int)-1)) c.length then (bif sGe (nth zT c (Z9K ((i:Int)-1))).1 c[i].1 then x else y) else none) else y) =
  bif (decide (0<i)&&sGe (nth zT c ((i:Int)-1)).1 c[i].1) then x else y:=by
 by_cases h:0<i
 ·unfold LIM at b
  rw [decide_eq_true (show (i:Int)>0 by omega),decide_eq_true h,cond_true,j01 (by omega),ZaK (by omega) (by omega),cond_true,Bool.true_and]
 ·rw [decide_eq_false (show ¬ (i:Int)>0 by omega),decide_eq_false h];rfl
end Go.PI.G
namespace Go.PI.G
open Go Go.PI
def free (b:Int) (s:ByteArray):Prop:=b ∉ Z1n s
theorem jeU {s:ByteArray} (h:j0j s=true):1<=s.size/\s.size<=8:=by
 unfold j0j at h
 simp only [Bool.and_eq_true,decide_eq_true_eq] at h
 exact h.2
end Go.PI.G
