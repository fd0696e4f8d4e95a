/-
  Program's code interpreted over typed values; printed texts; plain laws. No conditions.
-/
import Derived.Test.YtnemiodjnhfejaaGreatRWd
import Derived.Test.YtnemiodjnhfejaaGreatRWe
set_option linter.unusedVariables false
set_option maxRecDepth 100000
namespace Go.PI.G
noncomputable section
open Go Go.PI Go.Proofs
open Go.Code (pl pr)
def j0h (r:List qV) (b:qW->Res):Res:=bif lim (0+(List.length r)) then b r else none
def j4I:Sig Unit:=sg [.borrow y3 true] [true] [(y3,none)] [] λd f k=>j0h d.1 (λb=>k [⟨y3,true,b,[.O]⟩] [] [])
theorem j2X:SO 115 j4I:=fK (np:=0) Zas [] oN false Tryz.func115 λ_ _ _ _=>by kernel_rfl
def j4m (c:qB×Int×Bool×Bool×Int×Int×qB) (d:Int×Int×qB) (b:Bool->Res):Res:=bif (d.1==0) then j1s d λr=>bif r then b (!c.2.2.1) else b false else j1s d λf=>bif f then b (d.1==c.2.1) else b false
def j8D:Sig Unit:=sg [.look y7 true,.look y2 true] [false] [(y7,none),(y2,none)] [] λb f k=>j4m b.1 b.2.1 (λd=>k [wB d] [] [])
theorem jfN:SO 281 j8D:=fK (np:=0) (Za6 j7P Zas) [] oN false Tryz.func281 λ_ _ _ _=>by delta j4m jaT;refine gz j1s λ_ b=> ?_;rewrite [<-b];kernel_rfl
theorem jhv:FS [(227,j18),(281,j8D)]:=(Za6 j3y (Za6 jfN Zas))
def j5i (d:List qC) (f:Int) (r:List qV) (b:Int) (rec:Int->Res) (g:Unit->Res) (h:Unit->Res):Res:=bif decide (b<f) then bif inb b (List.length d) then bif inb b (List.length r) then j4m (nth (eS,0,false,false,0,0,eS) d b) (nth (0,0,eS) r b) λi=>bif !i then h () else rec (Z9K (b+1)) else none else none else g ()
def j7H (b:List qC) (d:Int) (r:List qV):Int->(Int->Res)->((Unit->Res)×(Unit->Res))->Res:=λv rec q=>j5i b d r v (λf=>rec (f)) q.1 q.2
def jcN (b:List qC) (d:Int) (r:List qV) (n:Nat) (f:Int) (g:Unit->Res) (h:Unit->Res):Res:=Z1f (j7H b d r) n (f) (g,h)
def jc7:Z1d Unit:=NdL 36 36 [.t 3 (pB 3),.R 20 y8 .S,.I 21,.I 22] [(3,y3,[.S])] (λb d=>(b.2.2.1)) (λb v=>(b.1,b.2.1,v,())) (λd v=>((d.1.1,d.1.2),())) (λb d=>j7H b.1 b.2.1 d.1.2) λb d f=>((λ_=>f (.exit 0) [] []),(λ_=>f .ret [(4,vB false)] []))
theorem jlY:CN 0 58 Tryz.f228 jc7:=lK jhv [] oN ([],[]) [(0,[],[])] ([4],[]) λ_ _ _ _ _=>by kernel_rfl
def j2w (t:qB×qE×qL) (r:List qV) (b:Bool->Res):Res:=j0x t λd=>bif !d then b false else bif ((nI (List.length r)) != (nI (List.length t.2.1))) then b false else jcN t.2.1 (nI (List.length t.2.1)) r Z1c 0 (λ_=>b true) (λ_=>b false)
def j85:Sig Unit:=sg [.look y29 true,.look y3 true] [false] [(y29,none),(y3,none)] [] λb f k=>j2w b.1 b.2.1 (λd=>k [wB d] [] [])
theorem jdA:SO 228 j85:=fK (np:=0) jhv [jc7] (oI 58 0 @jlY oN) false Tryz.func228 λ_ _ _ _=>by delta j2w j18 jc7 jcN;refine gz j0x λ_ b=>gz j7H λ_ d=> ?_;rewrite [<-b,<-d];kernel_rfl
def j4n (f:qL) (g:Int) (t:qB×qE×qL) (r:List qV) (d:List qV) (b:Int) (rec:qW->Int->Res) (i:qW->Res):Res:=bif decide (b<g) then bif inb b (List.length f) then j0K t (nth eS f b) λh=>bif inb h (List.length r) then bif lim ((List.length d)+1) then rec (d++[nth (0,0,eS) r h]) (Z9K (b+1)) else none else none else none else i d
def j9U (d:qL) (f:Int) (t:qB×qE×qL) (r:List qV):(qW×Int)->(qW×Int->Res)->((qW->Res))->Res:=λv rec q=>j4n d f t r v.1 v.2 (λb g=>rec (b,g)) q
def jgc (d:qL) (f:Int) (t:qB×qE×qL) (r:List qV) (n:Nat) (b:List qV) (g:Int) (h:qW->Res):Res:=Z1f (j9U d f t r) n (b,g) (h)
def jf5:Z1d Unit:=NdL 28 28 [.t 2 (pB 2),.t 3 (pB 3),.R 5 y3 .O,.R 10 y0 .S,.I 11,.I 12] [(2,y29,[.S,.S]),(3,y3,[.S])] (λb d=>(b.1,b.2.2.2.1)) (λb v=>(v.1,b.2.1,b.2.2.1,v.2,())) (λd v=>((d.1.1,d.1.2),(d.2.1.1,d.2.1.2),())) (λb d=>j9U b.2.1 b.2.2.1 d.1.2 d.2.1.2) λb d g=>((λf=>g (.exit 0) [(5,v1 y3 f .O)] []))
theorem jl2:CN 0 58 Tryz.f173 jf5:=lK (Za6 j5R Zas) [] oN ([],[]) [(0,[5],[])] ([],[]) λ_ _ _ _ _=>by kernel_rfl
def j0B (t:qB×qE×qL) (r:List qV) (d:qW->Res):Res:=jgc t.2.2 (nI (List.length t.2.2)) t r Z1c [] 0 λb=>d b
def j1r:Sig Unit:=sg [.borrow y29 true,.borrow y3 true] [false] [(y29,none),(y3,none)] [] λb f k=>j0B b.1 b.2.1 (λd=>k [w1 y3 d .O] [] [])
theorem j79:SO 173 j1r:=fK (np:=0) (Za6 j5R Zas) [jf5] (oI 58 0 @jl2 oN) false Tryz.func173 λ_ _ _ _=>by kernel_rfl
def j3a (a:List qV) (b:List qV) (i:Int) (rec:Int->Res) (d:Unit->Res) (f:Bool->Res):Res:=bif decide (i<(nI (List.length a))) then bif decide (i<(nI (List.length b))) then bif inb i (List.length a) then bif inb i (List.length b) then bif !(((nth (0,0,eS) a i).1==(nth (0,0,eS) b i).1)&&(((nth (0,0,eS) a i).2.1==(nth (0,0,eS) b i).2.1)&&(sEq (nth (0,0,eS) a i).2.2 (nth (0,0,eS) b i).2.2))) then bif inb i (List.length a) then bif inb i (List.length b) then j8c (nth (0,0,eS) a i) (nth (0,0,eS) b i) λr=>f r else none else none else rec (Z9K (i+1)) else none else none else d () else d ()
def j8Y (a:List qV) (b:List qV):Int->(Int->Res)->((Unit->Res)×(Bool->Res))->Res:=λv rec q=>j3a a b v (λi=>rec (i)) q.1 q.2
def jeJ (a:List qV) (b:List qV) (n:Nat) (i:Int) (d:Unit->Res) (f:Bool->Res):Res:=Z1f (j8Y a b) n (i) (d,f)
def jea:Z1d Unit:=NdL 41 41 [.R 0 y3 .S,.R 1 y3 .S,.I 5] [] (λb d=>(b.2.2.1)) (λb v=>(b.1,b.2.1,v,())) (λd v=>()) (λb d=>j8Y b.1 b.2.1) λb d f=>((λ_=>f (.exit 0) [(0,v1 y3 b.1 .S),(1,v1 y3 b.2.1 .S)] []),(λg=>f .ret [(4,vB g)] []))
theorem jjQ:CN 0 26 Tryz.f229 jea:=lK (Za6 jfK Zas) [] oN ([],[]) [(0,[0,1],[])] ([4],[]) λ_ _ _ _ _=>by kernel_rfl
def j4g (a:List qV) (b:List qV) (d:Bool->Res):Res:=jeJ a b Z1c 0 (λ_=>d (decide ((nI (List.length a))<(nI (List.length b))))) (λt=>d t)
def j6i:Sig Unit:=sg [.look y3 false,.look y3 false] [false] [(y3,none),(y3,none)] [] λb f k=>j4g b.1 b.2.1 (λd=>k [wB d] [] [])
theorem jfJ:SO 229 j6i:=fK (np:=0) (Za6 jfK Zas) [jea] (oI 26 0 @jjQ oN) false Tryz.func229 λ_ _ _ _=>by kernel_rfl
theorem jgV:FS [(173,j1r),(227,j18),(228,j85),(229,j6i)]:=(Za6 j79 (Za6 j3y (Za6 jdA (Za6 jfJ Zas))))
def j2q (l:List qW) (d:List qW) (f:Int) (t:qB×qE×qL) (b:Int) (rec:Int->Res) (h:Unit->Res) (g:Unit->Res):Res:=bif decide (b<f) then bif inb b (List.length d) then j2w t (nth [] d b) λr=>bif !r then g () else bif decide (b>0) then bif inb (Z9K (b-1)) (List.length l) then j0B t (nth [] l (Z9K (b-1))) λi=>j0B t (nth [] d b) λj=>j4g i j λk=>bif !k then g () else rec (Z9K (b+1)) else none else rec (Z9K (b+1)) else none else h ()
def j4h (l:List qW) (b:List qW) (d:Int) (t:qB×qE×qL):Int->(Int->Res)->((Unit->Res)×(Unit->Res))->Res:=λv rec q=>j2q l b d t v (λf=>rec (f)) q.1 q.2
def jbW (l:List qW) (b:List qW) (d:Int) (t:qB×qE×qL) (n:Nat) (f:Int) (g:Unit->Res) (h:Unit->Res):Res:=Z1f (j4h l b d t) n (f) (g,h)
def jbg:Z1d Unit:=NdL 45 45 [.R 1 y31 .S,.t 2 (pB 2),.R 15 y31 .S,.I 16,.I 17] [(2,y29,[.S,.S])] (λb d=>(b.2.2.2.1)) (λb v=>(b.1,b.2.1,b.2.2.1,v,())) (λd v=>((d.1.1,d.1.2),())) (λb d=>j4h b.1 b.2.1 b.2.2.1 d.1.2) λb d f=>((λ_=>f (.exit 0) [] []),(λ_=>f .ret [(4,vB false)] []))
theorem jkW:CN 0 58 Tryz.f172 jbg:=lK jgV [] oN ([],[]) [(0,[],[])] ([4],[]) λ_ _ _ _ _=>by delta j4h j2q j85 j1r j6i;refine gz j2w λ_ b=>gz j0B λ_ d=>gz j4g λ_ f=> ?_;rewrite [<-b,<-d,<-f];kernel_rfl
def j0A (t:qB×qE×qL) (l:List qW) (b:Bool->Res):Res:=j0x t λr=>bif !r then b false else bif decide ((nI (List.length l))>60) then b false else jbW l l (nI (List.length l)) t Z1c 0 (λ_=>b true) (λ_=>b false)
def j1q:Sig Unit:=sg [.look y29 true,.look y31 false] [false] [(y29,none),(y31,none)] [] λb f k=>j0A b.1 b.2.1 (λd=>k [wB d] [] [])
theorem j4E:SO 172 j1q:=fK (np:=0) jgV [jbg] (oI 58 0 @jkW oN) false Tryz.func172 λ_ _ _ _=>by delta j0A j18 jbg jbW;refine gz j0x λ_ b=>gz j4h λ_ d=> ?_;rewrite [<-b,<-d];kernel_rfl
def j3h (f:List qW) (h:Int) (b:List qW) (d:Int) (rec:qR->Int->Res) (g:qR->Res):Res:=bif decide (d<h) then bif inb d (List.length f) then j0h (nth [] f d) λr=>bif lim ((List.length b)+1) then rec (b++[r]) (Z9K (d+1)) else none else none else g b
def j91 (d:List qW) (f:Int):(qR×Int)->(qR×Int->Res)->((qR->Res))->Res:=λv rec q=>j3h d f v.1 v.2 (λb g=>rec (b,g)) q
def jeM (f:List qW) (g:Int) (n:Nat) (b:List qW) (h:Int) (d:qR->Res):Res:=Z1f (j91 f g) n (b,h) (d)
def jed:Z1d Unit:=NdL 20 20 [.R 3 y31 .O,.R 7 y31 .S,.I 8,.I 9] [] (λb f=>(b.1,b.2.2.2.1)) (λb v=>(v.1,b.2.1,b.2.2.1,v.2,())) (λf v=>()) (λb f=>j91 b.2.1 b.2.2.1) λb f g=>((λd=>g (.exit 0) [(3,v1 y31 d .O)] []))
theorem jk0:CN 0 58 Tryz.f244 jed:=lK (Za6 j2X Zas) [] oN ([],[]) [(0,[3],[])] ([],[]) λ_ _ _ _ _=>by kernel_rfl
def j6w (l:List qW) (d:qR->Res):Res:=jeM l (nI (List.length l)) Z1c [] 0 λb=>d b
def j8C:Sig Unit:=sg [.borrow y31 false] [false] [(y31,none)] [] λd f k=>j6w d.1 (λb=>k [w1 y31 b .O] [] [])
theorem jfM:SO 244 j8C:=fK (np:=0) (Za6 j2X Zas) [jed] (oI 58 0 @jk0 oN) false Tryz.func244 λ_ _ _ _=>by kernel_rfl
def j1K (a:List qV) (b:List qV) (f:Int) (d:Int) (rec:Int->Res) (g:Unit->Res) (h:Unit->Res):Res:=bif decide (d<f) then bif inb d (List.length a) then bif inb d (List.length b) then bif !(((nth (0,0,eS) a d).1==(nth (0,0,eS) b d).1)&&(((nth (0,0,eS) a d).2.1==(nth (0,0,eS) b d).2.1)&&(sEq (nth (0,0,eS) a d).2.2 (nth (0,0,eS) b d).2.2))) then h () else rec (Z9K (d+1)) else none else none else g ()
def j6y (a:List qV) (b:List qV) (d:Int):Int->(Int->Res)->((Unit->Res)×(Unit->Res))->Res:=λv rec q=>j1K a b d v (λf=>rec (f)) q.1 q.2
def jbs (a:List qV) (b:List qV) (d:Int) (n:Nat) (f:Int) (g:Unit->Res) (h:Unit->Res):Res:=Z1f (j6y a b d) n (f) (g,h)
def jbk:Z1d Unit:=NdL 26 26 [.R 0 y3 .S,.R 1 y3 .S,.I 12,.I 13] [] (λb d=>(b.2.2.2.1)) (λb v=>(b.1,b.2.1,b.2.2.1,v,())) (λd v=>()) (λb d=>j6y b.1 b.2.1 b.2.2.1) λb d f=>((λ_=>f (.exit 0) [] []),(λ_=>f .ret [(4,vB false)] []))
theorem jgF:CN 0 58 Tryz.f126 jbk:=lK Zas [] oN ([],[]) [(0,[],[])] ([4],[]) λ_ _ _ _ _=>by kernel_rfl
def j4p (a:List qV) (b:List qV) (d:Bool->Res):Res:=bif ((nI (List.length a)) != (nI (List.length b))) then d false else jbs a b (nI (List.length a)) Z1c 0 (λ_=>d true) (λ_=>d false)
def j86:Sig Unit:=sg [.look y3 false,.look y3 false] [false] [(y3,none),(y3,none)] [] λb f k=>j4p b.1 b.2.1 (λd=>k [wB d] [] [])
theorem jhN:SO 126 j86:=fK (np:=0) Zas [jbk] (oI 58 0 @jgF oN) false Tryz.func126 λ_ _ _ _=>by kernel_rfl
theorem jhu:FS [(126,j86),(172,j1q),(173,j1r)]:=(Za6 jhN (Za6 j4E (Za6 j79 Zas)))
def j2S (f:List qV) (d:List qW) (g:Int) (t:qB×qE×qL) (b:Int) (rec:Int->Res) (h:Unit->Res) (i:Int->Res):Res:=bif decide (b<g) then bif inb b (List.length d) then j0B t (nth [] d b) λr=>j4p r f λj=>bif j then i b else rec (Z9K (b+1)) else none else h ()
def j5h (b:List qV) (d:List qW) (f:Int) (t:qB×qE×qL):Int->(Int->Res)->((Unit->Res)×(Int->Res))->Res:=λv rec q=>j2S b d f t v (λg=>rec (g)) q.1 q.2
def jcM (b:List qV) (d:List qW) (f:Int) (t:qB×qE×qL) (n:Nat) (g:Int) (h:Unit->Res) (i:Int->Res):Res:=Z1f (j5h b d f t) n (g) (h,i)
def jc6:Z1d Unit:=NdL 27 27 [.R 2 y3 .S,.t 3 (pB 3),.R 13 y31 .S,.I 14,.I 15] [(3,y29,[.S,.S])] (λb d=>(b.2.2.2.1)) (λb v=>(b.1,b.2.1,b.2.2.1,v,())) (λd v=>((d.1.1,d.1.2),())) (λb d=>j5h b.1 b.2.1 b.2.2.1 d.1.2) λb d f=>((λ_=>f (.exit 0) [] []),(λg=>f .ret [(6,vI g)] []))
theorem jlX:CN 0 58 Tryz.f114 jc6:=lK jhu [] oN ([],[]) [(0,[],[])] ([6],[]) λ_ _ _ _ _=>by delta j5h j2S j1r j86;refine gz j0B λ_ b=>gz j4p λ_ d=> ?_;rewrite [<-b,<-d];kernel_rfl
def j19 (t:qB×qE×qL) (l:List qW) (d:List qV) (b:Int->Res):Res:=j0A t l λr=>bif !r then b (-1) else jcM d l (nI (List.length l)) t Z1c 0 (λ_=>b (-1)) (λf=>b f)
def j84:Sig Unit:=sg [.look y29 true,.look y31 false,.look y3 false] [false] [(y29,none),(y31,none),(y3,none)] [] λb f k=>j19 b.1 b.2.1 b.2.2.1 (λd=>k [wI d] [] [])
theorem jar:SO 114 j84:=fK (np:=0) jhu [jc6] (oI 58 0 @jlX oN) false Tryz.func114 λ_ _ _ _=>by delta j19 j1q jc6 jcM;refine gz j0A λ_ b=>gz j5h λ_ d=> ?_;rewrite [<-b,<-d];kernel_rfl
theorem jct:FS [(115,j4I),(173,j1r),(229,j6i)]:=(Za6 j2X (Za6 j79 (Za6 jfJ Zas)))
def j6x (b:List qW) (done:Bool) (t:qB×qE×qL) (r:List qV) (x:List qV) (d:qR->Bool->Res):Res:=bif !done then j0B t r λf=>j0B t x λg=>j4g f g λh=>bif h then j0h r λi=>bif lim ((List.length b)+1) then d (b++[i]) true else none else d b done else d b done
def j7M:Z1d Unit:=Nd 48 48 [.t 3 (pB 3),.t 5 (pB 5),.R 7 y31 .O,.B 8,.t 10 (pB 10),.R 12 y31 .S,.I 13,.I 14] [(3,y29,[.S,.S]),(5,y3,[.S]),(10,y3,[.S])] λg b h=>j6x g.1 g.2.1 b.1.2 b.2.1.2 b.2.2.1.2 (λf d=>h .normal [(3,pB 3),(5,pB 5),(7,v1 y31 f .O),(8,vB d),(10,pB 10),(12,v1 y31 g.2.2.1 .S),(13,vI g.2.2.2.1),(14,vI g.2.2.2.2.1)] [(3,⟨y29,b.1.1,b.1.2,[.S,.S]⟩),(5,⟨y3,b.2.1.1,b.2.1.2,[.S]⟩),(10,⟨y3,b.2.2.1.1,b.2.2.1.2,[.S]⟩)])
theorem jl4:CN 0 15666 Tryz.f312 j7M:=nK jct [] oN ([3,5,7,8,10,12,13,14],[3,5,10]) [] ([],[]) λ_ _ _=>by delta j6x j1r j6i j4I;refine gz j0B λ_ b=>gz j4g λ_ d=>gz j0h λ_ f=> ?_;rewrite [<-b,<-d,<-f];kernel_rfl
def j2r (g:List qW) (i:Int) (t:qB×qE×qL) (r:List qV) (h:List qW) (done:Bool) (b:Int) (rec:qR->Bool->Int->Res) (j:qR->Bool->Res):Res:=bif decide (b<i) then bif inb b (List.length g) then j6x h done t r (nth [] g b) λd f=>j0h (nth [] g b) λk=>bif lim ((List.length d)+1) then rec (d++[k]) f (Z9K (b+1)) else none else none else j h done
def j4o (d:List qW) (f:Int) (t:qB×qE×qL) (r:List qV):(qR×Bool×Int)->(qR×Bool×Int->Res)->((qR->Bool->Res))->Res:=λv rec q=>j2r d f t r v.1 v.2.1 v.2.2 (λb done g=>rec (b,done,g)) q
def jc0 (d:List qW) (f:Int) (t:qB×qE×qL) (r:List qV) (n:Nat) (b:List qW) (done:Bool) (g:Int) (h:qR->Bool->Res):Res:=Z1f (j4o d f t r) n (b,done,g) (h)
def jbj:Z1d Unit:=NdL 48 48 [.t 3 (pB 3),.t 5 (pB 5),.R 7 y31 .O,.B 8,.R 12 y31 .S,.I 13,.I 14] [(3,y29,[.S,.S]),(5,y3,[.S])] (λd b=>(d.1,d.2.1,d.2.2.2.2.1)) (λd v=>(v.1,v.2.1,d.2.2.1,d.2.2.2.1,v.2.2,())) (λb v=>((b.1.1,b.1.2),(b.2.1.1,b.2.1.2),())) (λd b=>j4o d.2.2.1 d.2.2.2.1 b.1.2 b.2.1.2) λd b h=>((λg f=>h (.exit 0) [(5,pB 5),(7,v1 y31 g .O),(8,vB f)] [(5,⟨y3,b.2.1.1,b.2.1.2,[.S]⟩)]))
theorem jl3:CN 0 122 Tryz.f312 jbj:=lK jct [j7M] (oI 114 0 @jl4 oN) ([],[]) [(0,[5,7,8],[5])] ([],[]) λ_ _ _ _ _=>by delta j4o j2r j7M j4I;refine gz j6x λ_ b=>gz j0h λ_ d=> ?_;rewrite [<-b,<-d];kernel_rfl
def j3x (t:qB×qE×qL) (l:List qW) (r:List qV) (d:qR->Res):Res:=jc0 l (nI (List.length l)) t r Z1c [] false 0 λb done=>bif !done then j0h r λf=>bif lim ((List.length b)+1) then d (b++[f]) else none else d b
def jcI:Sig Unit:=sg [.borrow y29 true,.borrow y31 false,.borrow y3 true] [false] [(y29,none),(y31,none),(y3,none)] [] λb f k=>j3x b.1 b.2.1 b.2.2.1 (λd=>k [w1 y31 d .O] [] [])
theorem jh3:SO 312 jcI:=fK (np:=0) jct [j7M,jbj] (oI 122 1 @jl3 oN) false Tryz.func312 λ_ _ _ _=>by delta j3x jbj j4I jc0;refine gz j4o λ_ b=>gz j0h λ_ d=> ?_;rewrite [<-b,<-d];kernel_rfl
def j7p (t:qB×qE×qL) (l:List qW) (r:List qV) (b:qR->Int->Res):Res:=j0A t l λd=>bif !d then b [] 1 else j2w t r λf=>bif !f then b [] 2 else j0B t r λg=>j19 t l g λh=>bif decide (h>=0) then b [] 3 else bif ((nI (List.length l))==60) then b [] 4 else j3x t l r λi=>b i 0
def jhe:Sig Unit:=sg [.borrow y29 true,.borrow y31 false,.borrow y3 true] [false,false] [(y29,none),(y31,none),(y3,none)] [] λb g k=>j7p b.1 b.2.1 b.2.2.1 (λd f=>k [w1 y31 d .O,wI f] [] [])
theorem jmR:SO 288 jhe:=fK (np:=0) (Za6 jar (Za6 j4E (Za6 j79 (Za6 jdA (Za6 jh3 Zas))))) [] oN false Tryz.func288 λ_ _ _ _=>by delta j7p j1q j85 j1r j84 jcI;refine gz j0A λ_ b=>gz j2w λ_ d=>gz j0B λ_ f=>gz j19 λ_ g=>gz j3x λ_ h=> ?_;rewrite [<-b,<-d,<-f,<-g,<-h];kernel_rfl
theorem jhs:FS [(227,j18),(230,j2E),(281,j8D)]:=(Za6 j3y (Za6 j5R (Za6 jfN Zas)))
def j2R (d:List qV) (f:qL) (g:Int) (t:qB×qE×qL) (b:Int) (rec:Int->Res) (h:Unit->Res) (i:Unit->Res):Res:=bif decide (b<g) then bif inb b (List.length f) then bif inb b (List.length d) then j0K t (nth eS f b) λr=>bif inb r (List.length t.2.1) then j4m (nth (eS,0,false,false,0,0,eS) t.2.1 r) (nth (0,0,eS) d b) λj=>bif !j then i () else rec (Z9K (b+1)) else none else none else none else h ()
def j5g (b:List qV) (d:qL) (f:Int) (t:qB×qE×qL):Int->(Int->Res)->((Unit->Res)×(Unit->Res))->Res:=λv rec q=>j2R b d f t v (λg=>rec (g)) q.1 q.2
def jcL (b:List qV) (d:qL) (f:Int) (t:qB×qE×qL) (n:Nat) (g:Int) (h:Unit->Res) (i:Unit->Res):Res:=Z1f (j5g b d f t) n (g) (h,i)
def jc4:Z1d Unit:=NdL 40 40 [.R 1 y3 .S,.t 2 (pB 2),.R 19 y0 .S,.I 20,.I 21] [(2,y29,[.S,.S])] (λb d=>(b.2.2.2.1)) (λb v=>(b.1,b.2.1,b.2.2.1,v,())) (λd v=>((d.1.1,d.1.2),())) (λb d=>j5g b.1 b.2.1 b.2.2.1 d.1.2) λb d f=>((λ_=>f (.exit 0) [] []),(λ_=>f .ret [(4,vB false)] []))
theorem jlV:CN 0 58 Tryz.f313 jc4:=lK jhs [] oN ([],[]) [(0,[],[])] ([4],[]) λ_ _ _ _ _=>by delta j5g j2R j2E j8D;refine gz j0K λ_ b=>gz j4m λ_ d=> ?_;rewrite [<-b,<-d];kernel_rfl
def j5f (t:qB×qE×qL) (b:List qV) (d:Bool->Res):Res:=j0x t λr=>bif !r then d false else bif ((nI (List.length b)) != (nI (List.length t.2.2))) then d false else jcL b t.2.2 (nI (List.length t.2.2)) t Z1c 0 (λ_=>d true) (λ_=>d false)
def je2:Sig Unit:=sg [.look y29 true,.look y3 false] [false] [(y29,none),(y3,none)] [] λb f k=>j5f b.1 b.2.1 (λd=>k [wB d] [] [])
theorem jhM:SO 313 je2:=fK (np:=0) jhs [jc4] (oI 58 0 @jlV oN) false Tryz.func313 λ_ _ _ _=>by delta j5f j18 jc4 jcL;refine gz j0x λ_ b=>gz j5g λ_ d=> ?_;rewrite [<-b,<-d];kernel_rfl
def j1W (f:Int) (h:List qW) (g:Int) (d:List qW) (b:Int) (rec:qR->Int->Res) (i:qR->Res):Res:=bif decide (b<g) then bif inb b (List.length h) then bif (b != f) then j0h (nth [] h b) λr=>bif lim ((List.length d)+1) then rec (d++[r]) (Z9K (b+1)) else none else rec d (Z9K (b+1)) else none else i d
def j6V (b:Int) (h:List qW) (f:Int):(qR×Int)->(qR×Int->Res)->((qR->Res))->Res:=λv rec q=>j1W b h f v.1 v.2 (λd g=>rec (d,g)) q
def jcp (b:Int) (i:List qW) (f:Int) (n:Nat) (d:List qW) (g:Int) (h:qR->Res):Res:=Z1f (j6V b i f) n (d,g) (h)
def jbt:Z1d Unit:=NdL 26 26 [.I 1,.R 5 y31 .O,.R 9 y31 .S,.I 10,.I 11] [] (λb f=>(b.2.1,b.2.2.2.2.1)) (λb v=>(b.1,v.1,b.2.2.1,b.2.2.2.1,v.2,())) (λf v=>()) (λb f=>j6V b.1 b.2.2.1 b.2.2.2.1) λb f g=>((λd=>g (.exit 0) [(5,v1 y31 d .O)] []))
theorem jho:CN 0 58 Tryz.f314 jbt:=lK (Za6 j2X Zas) [] oN ([],[]) [(0,[5],[])] ([],[]) λ_ _ _ _ _=>by kernel_rfl
def j1V (l:List qW) (b:Int) (f:qR->Res):Res:=jcp b l (nI (List.length l)) Z1c [] 0 λd=>f d
def j8W:Sig Unit:=sg [.borrow y31 false,.borrow tI false] [false] [(y31,none),(tI,none)] [] λb f k=>j1V b.1 b.2.1 (λd=>k [w1 y31 d .O] [] [])
theorem jcX:SO 314 j8W:=fK (np:=0) (Za6 j2X Zas) [jbt] (oI 58 0 @jho oN) false Tryz.func314 λ_ _ _ _=>by kernel_rfl
def j7q (t:qB×qE×qL) (l:List qW) (d:List qV) (r:List qV) (b:qR->Int->Res):Res:=j0A t l λh=>bif !h then b [] 1 else j2w t r λi=>bif !i then b [] 2 else j19 t l d λf=>j5f t d λj=>bif !j then b [] 5 else bif decide (f<0) then b [] 5 else j1V l f λg=>j0B t r λk=>j19 t g k λm=>bif decide (m>=0) then b [] 3 else j3x t g r λn=>b n 0
def jhf:Sig Unit:=sg [.borrow y29 true,.borrow y31 false,.borrow y3 false,.borrow y3 true] [false,false] [(y29,none),(y31,none),(y3,none),(y3,none)] [] λb g k=>j7q b.1 b.2.1 b.2.2.1 b.2.2.2.1 (λd f=>k [w1 y31 d .O,wI f] [] [])
theorem jmS:SO 289 jhf:=fK (np:=0) (Za6 jar (Za6 j4E (Za6 j79 (Za6 jdA (Za6 jh3 (Za6 jhM (Za6 jcX Zas))))))) [] oN false Tryz.func289 λ_ _ _ _=>by delta j7q j1q j85 j84 je2 j8W j1r jcI;refine gz j0A λ_ b=>gz j2w λ_ d=>gz j19 λ_ f=>gz j5f λ_ g=>gz j1V λ_ h=>gz j0B λ_ i=>gz j3x λ_ j=> ?_;rewrite [<-b,<-d,<-f,<-g,<-h,<-i,<-j];kernel_rfl
def j7o (t:qB×qE×qL) (l:List qW) (b:List qV) (d:qR->Int->Res):Res:=j0A t l λr=>bif !r then d [] 1 else j19 t l b λf=>j5f t b λg=>bif !g then d [] 5 else bif decide (f<0) then d [] 5 else j1V l f λh=>d h 0
def jhd:Sig Unit:=sg [.borrow y29 true,.borrow y31 false,.borrow y3 false] [false,false] [(y29,none),(y31,none),(y3,none)] [] λb g k=>j7o b.1 b.2.1 b.2.2.1 (λd f=>k [w1 y31 d .O,wI f] [] [])
theorem jmQ:SO 290 jhd:=fK (np:=0) (Za6 jar (Za6 j4E (Za6 jhM (Za6 jcX Zas)))) [] oN false Tryz.func290 λ_ _ _ _=>by delta j7o j1q j84 je2 j8W;refine gz j0A λ_ b=>gz j19 λ_ d=>gz j5f λ_ f=>gz j1V λ_ g=> ?_;rewrite [<-b,<-d,<-f,<-g];kernel_rfl
theorem j5P:FS [(172,j1q),(210,j4e),(230,j2E),(287,j5a)]:=(Za6 j4E (Za6 jdz (Za6 j5R (Za6 jep Zas))))
def j5j (l:List qW) (t:qB×qE×qL) (d:qG) (b:Bool->Res):Res:=j0A t l λr=>bif !r then b true else j2v d λf=>bif !f then b true else bif sNe d.2.1 t.1 then b true else b (d.1==1)
def j2s:Z1d Unit:=Nd 106 106 [.R 1 y31 .S,.t 3 (pB 3),.t 5 (pB 5)] [(3,y29,[.S,.S]),(5,y13,[.S,.S])] λf b g=>j5j f.1 b.1.2 b.2.1.2 (λd=>g .normal [(1,v1 y31 f.1 .S),(3,pB 3),(5,pB 5),(37,vB d)] [(3,⟨y29,b.1.1,b.1.2,[.S,.S]⟩),(5,⟨y13,b.2.1.1,b.2.1.2,[.S,.S]⟩)])
theorem jjT:CN 0 12 Tryz.f291 j2s:=nK j5P [] oN ([1,3,5,37],[3,5]) [] ([],[]) λ_ _ _=>by delta j5j j1q j4e;refine gz j0A λ_ b=>gz j2v λ_ d=> ?_;rewrite [<-b,<-d];kernel_rfl
def j0D (g:Int) (f:List qV) (h:Int) (d:qG) (b:Int) (x:List qV) (rec:Int->qW->Res) (i:qW->Res):Res:=bif decide (b<h) then bif inb b (List.length f) then bif (d.1 != 4) then bif lim ((List.length x)+1) then rec (Z9K (b+1)) (x++[nth (0,0,eS) f b]) else none else bif (b != g) then bif lim ((List.length x)+1) then rec (Z9K (b+1)) (x++[nth (0,0,eS) f b]) else none else rec (Z9K (b+1)) x else none else i x
def j3b (b:Int) (f:List qV) (g:Int) (d:qG):(Int×qW)->(Int×qW->Res)->((qW->Res))->Res:=λv rec q=>j0D b f g d v.1 v.2 (λh x=>rec (h,x)) q
def j7I (b:Int) (f:List qV) (g:Int) (d:qG) (n:Nat) (h:Int) (x:List qV) (i:qW->Res):Res:=Z1f (j3b b f g d) n (h,x) (i)
def j4u:Z1d Unit:=NdL 106 106 [.t 5 (pB 5),.R 10 y31 .O,.I 11,.t 14 (pB 14),.R 54 y31 .S,.I 55,.I 56,.R 62 y3 .S,.I 63,.I 64] [(5,y13,[.S,.S]),(14,y3,[.O])] (λb d=>(b.2.2.2.2.2.2.2.1,d.2.1.2)) (λb v=>(b.1,b.2.1,b.2.2.1,b.2.2.2.1,b.2.2.2.2.1,b.2.2.2.2.2.1,b.2.2.2.2.2.2.1,v.1,())) (λd v=>((d.1.1,d.1.2),(d.2.1.1,v.2),())) (λb d=>j3b b.2.1 b.2.2.2.2.2.1 b.2.2.2.2.2.2.1 d.1.2) λb d f=>((λg=>f (.exit 2) [(5,pB 5),(10,v1 y31 b.1 .O),(11,vI b.2.1),(14,pB 14),(54,v1 y31 b.2.2.1 .S),(55,vI b.2.2.2.1),(56,vI b.2.2.2.2.1)] [(5,⟨y13,d.1.1,d.1.2,[.S,.S]⟩),(14,⟨y3,d.2.1.1,g,[.O]⟩)]))
theorem jjR:CN 0 1042842 Tryz.f291 j4u:=lK j5P [j2s] oN ([],[]) [(2,[5,10,11,14,54,55,56],[5,14])] ([],[]) λ_ _ _ _ _=>by kernel_rfl
def j7J (b:Bool) (d:qG) (x:List qV) (f:qW->Res):Res:=bif b then bif inb 0 (List.length d.2.2.1) then bif lim ((List.length x)+1) then f (x++[(nth (eS,0,false,false,0,0,eS) d.2.2.1 0).2.2.2.2]) else none else none else f x
def j73:Z1d Unit:=Nd 106 106 [.t 5 (pB 5),.R 10 y31 .O,.I 11,.t 14 (pB 14),.R 54 y31 .S,.I 55,.I 56,.B 86] [(5,y13,[.S,.S]),(14,y3,[.O])] λb d f=>j7J b.2.2.2.2.2.1 d.1.2 d.2.1.2 (λg=>f .normal [(5,pB 5),(10,v1 y31 b.1 .O),(11,vI b.2.1),(14,pB 14),(54,v1 y31 b.2.2.1 .S),(55,vI b.2.2.2.1),(56,vI b.2.2.2.2.1)] [(5,⟨y13,d.1.1,d.1.2,[.S,.S]⟩),(14,⟨y3,d.2.1.1,g,[.O]⟩)])
theorem jjU:CN 0 1042845 Tryz.f291 j73:=nK j5P [j2s,j4u] oN ([5,10,11,14,54,55,56],[5,14]) [] ([],[]) λ_ _ _=>by kernel_rfl
def j22 (h:Int) (g:List qW) (i:Int) (d:qG) (f:List qW) (b:Int) (rec:qR->Int->Res) (j:qR->Res):Res:=bif decide (b<i) then bif inb b (List.length g) then j7I h (nth [] g b) (nI (List.length (nth [] g b))) d Z1c 0 [] λx=>j7J (d.1==3) d x λk=>bif (d.1 != 2) then bif lim ((List.length f)+1) then rec (f++[k]) (Z9K (b+1)) else none else rec f (Z9K (b+1)) else none else j f
def j3c (b:Int) (g:List qW) (h:Int) (d:qG):(qR×Int)->(qR×Int->Res)->((qR->Res))->Res:=λv rec q=>j22 b g h d v.1 v.2 (λf i=>rec (f,i)) q
def jb0 (b:Int) (g:List qW) (h:Int) (d:qG) (n:Nat) (f:List qW) (i:Int) (j:qR->Res):Res:=Z1f (j3c b g h d) n (f,i) (j)
def ja6:Z1d Unit:=NdL 106 106 [.t 5 (pB 5),.R 10 y31 .O,.I 11,.R 54 y31 .S,.I 55,.I 56] [(5,y13,[.S,.S])] (λb d=>(b.1,b.2.2.2.2.1)) (λb v=>(v.1,b.2.1,b.2.2.1,b.2.2.2.1,v.2,())) (λd v=>((d.1.1,d.1.2),())) (λb d=>j3c b.2.1 b.2.2.1 b.2.2.2.1 d.1.2) λb d g=>((λf=>g (.exit 0) [(10,v1 y31 f .O)] []))
theorem jjS:CN 0 1018 Tryz.f291 ja6:=lK j5P [j2s,j4u,j73] (oI 922 1 @jjR (oI 925 2 @jjU oN)) ([],[]) [(0,[10],[])] ([],[]) λ_ _ _ _ _=>by delta j3c j22 j4u j73 j7I;refine gz j3b λ_ b=>gz j7J λ_ d=> ?_;rewrite [<-b,<-d];kernel_rfl
def j6s (t:qB×qE×qL) (l:List qW) (d:qG) (b:qR->Int->Res):Res:=j5j l t d λi=>bif i then b [] 1 else j2b [t] d λr g=>bif (g != 0) then b [] g else j0K t d.2.2.2.2.1 λh=>jb0 h l (nI (List.length l)) d Z1c [] 0 λf=>b f 0
def jg7:Sig Unit:=sg [.borrow y29 true,.borrow y31 false,.borrow y13 true] [false,false] [(y29,none),(y31,none),(y13,none)] [] λb g k=>j6s b.1 b.2.1 b.2.2.1 (λd f=>k [w1 y31 d .O,wI f] [] [])
theorem jlw:SO 291 jg7:=fK (np:=0) j5P [j2s,j4u,j73,ja6] (oI 12 0 @jjT (oI 1018 3 @jjS oN)) false Tryz.func291 λ_ _ _ _=>by delta j6s j2s j5a j2E ja6 jb0;refine gz j5j λ_ b=>gz j2b λ_ d=>gz j0K λ_ f=>gz j3c λ_ g=> ?_;rewrite [<-b,<-d,<-f,<-g];kernel_rfl
def j0u (l:List qV) (b:qW->Res):Res:=bif lim (0+(List.length l)) then b l else none
def j57:Sig Unit:=sg [.borrow y3 false] [false] [(y3,none)] [] λd f k=>j0u d.1 (λb=>k [w1 y3 b .O] [] [])
theorem j4N:SO 178 j57:=fK (np:=0) Zas [] oN false Tryz.func178 λ_ _ _ _=>by kernel_rfl
def jcc (c:qB×Int×Bool×Bool×Int×Int×qB) (d:Int×Int×qB) (b:Bool->Res):Res:=j16 d λr=>bif r then bif (d.1==c.2.1) then b true else bif (d.1==0) then b (!c.2.2.1) else b false else b false
def jnj:Sig Unit:=sg [.look y7 true,.look y2 true] [false] [(y7,none),(y2,none)] [] λb f k=>jcc b.1 b.2.1 (λd=>k [wB d] [] [])
theorem jh1:SO 315 jnj:=fK (np:=0) (Za6 j7N Zas) [] oN false Tryz.func315 λ_ _ _ _=>by kernel_rfl
def j51 (d:List qV) (f:Int) (t:qB×qE×qL) (b:Int) (rec:Int->Res) (g:Unit->Res) (h:Unit->Res):Res:=bif decide (b<f) then bif inb b (List.length d) then bif inb b (List.length t.2.1) then jcc (nth (eS,0,false,false,0,0,eS) t.2.1 b) (nth (0,0,eS) d b) λr=>bif !r then h () else rec (Z9K (b+1)) else none else none else g ()
def jaD (b:List qV) (d:Int) (t:qB×qE×qL):Int->(Int->Res)->((Unit->Res)×(Unit->Res))->Res:=λv rec q=>j51 b d t v (λf=>rec (f)) q.1 q.2
def jh8 (b:List qV) (d:Int) (t:qB×qE×qL) (n:Nat) (f:Int) (g:Unit->Res) (h:Unit->Res):Res:=Z1f (jaD b d t) n (f) (g,h)
def jgk:Z1d Unit:=NdL 31 31 [.t 2 (pB 2),.R 15 y3 .S,.I 16,.I 17] [(2,y29,[.S,.S])] (λb d=>(b.2.2.1)) (λb v=>(b.1,b.2.1,v,())) (λd v=>((d.1.1,d.1.2),())) (λb d=>jaD b.1 b.2.1 d.1.2) λb d f=>((λ_=>f (.exit 0) [] []),(λ_=>f .ret [(4,vB false)] []))
theorem jlR:CN 0 58 Tryz.f293 jgk:=lK (Za6 jh1 Zas) [] oN ([],[]) [(0,[],[])] ([4],[]) λ_ _ _ _ _=>by kernel_rfl
def j3p (t:qB×qE×qL) (r:List qV) (b:Bool->Res):Res:=bif ((nI (List.length r)) != (nI (List.length t.2.1))) then b false else jh8 r (nI (List.length r)) t Z1c 0 (λ_=>b true) (λ_=>b false)
def j6d:Sig Unit:=sg [.look y29 true,.look y3 true] [false] [(y29,none),(y3,none)] [] λb f k=>j3p b.1 b.2.1 (λd=>k [wB d] [] [])
theorem jdt:SO 293 j6d:=fK (np:=0) (Za6 jh1 Zas) [jgk] (oI 58 0 @jlR oN) false Tryz.func293 λ_ _ _ _=>by kernel_rfl
def j50 (f:qL) (g:Int) (t:qB×qE×qL) (r:List qV) (d:List qV) (b:Int) (rec:qW->Int->Res) (i:qW->Res):Res:=bif decide (b<g) then bif inb b (List.length f) then j0f t (nth eS f b) λh=>bif inb h (List.length r) then bif lim ((List.length d)+1) then rec (d++[nth (0,0,eS) r h]) (Z9K (b+1)) else none else none else none else i d
def jaC (d:qL) (f:Int) (t:qB×qE×qL) (r:List qV):(qW×Int)->(qW×Int->Res)->((qW->Res))->Res:=λv rec q=>j50 d f t r v.1 v.2 (λb g=>rec (b,g)) q
def jh7 (d:qL) (f:Int) (t:qB×qE×qL) (r:List qV) (n:Nat) (b:List qV) (g:Int) (h:qW->Res):Res:=Z1f (jaC d f t r) n (b,g) (h)
def jgj:Z1d Unit:=NdL 28 28 [.t 2 (pB 2),.t 3 (pB 3),.R 5 y3 .O,.R 10 y0 .S,.I 11,.I 12] [(2,y29,[.S,.S]),(3,y3,[.S])] (λb d=>(b.1,b.2.2.2.1)) (λb v=>(v.1,b.2.1,b.2.2.1,v.2,())) (λd v=>((d.1.1,d.1.2),(d.2.1.1,d.2.1.2),())) (λb d=>jaC b.2.1 b.2.2.1 d.1.2 d.2.1.2) λb d g=>((λf=>g (.exit 0) [(5,v1 y3 f .O)] []))
theorem jlQ:CN 0 58 Tryz.f238 jgj:=lK (Za6 j3J Zas) [] oN ([],[]) [(0,[5],[])] ([],[]) λ_ _ _ _ _=>by kernel_rfl
def j0I (t:qB×qE×qL) (r:List qV) (d:qW->Res):Res:=jh7 t.2.2 (nI (List.length t.2.2)) t r Z1c [] 0 λb=>d b
def j1T:Sig Unit:=sg [.borrow y29 true,.borrow y3 true] [false] [(y29,none),(y3,none)] [] λb f k=>j0I b.1 b.2.1 (λd=>k [w1 y3 d .O] [] [])
theorem j7O:SO 238 j1T:=fK (np:=0) (Za6 j3J Zas) [jgj] (oI 58 0 @jlQ oN) false Tryz.func238 λ_ _ _ _=>by kernel_rfl
def j32 (a:List qV) (b:List qV) (i:Int) (rec:Int->Res) (d:Unit->Res) (f:Bool->Res):Res:=bif decide (i<(nI (List.length a))) then bif decide (i<(nI (List.length b))) then bif inb i (List.length a) then bif inb i (List.length b) then bif !(((nth (0,0,eS) a i).1==(nth (0,0,eS) b i).1)&&(((nth (0,0,eS) a i).2.1==(nth (0,0,eS) b i).2.1)&&(sEq (nth (0,0,eS) a i).2.2 (nth (0,0,eS) b i).2.2))) then bif inb i (List.length a) then bif inb i (List.length b) then j7S (nth (0,0,eS) a i) (nth (0,0,eS) b i) λr=>f r else none else none else rec (Z9K (i+1)) else none else none else d () else d ()
def j8R (a:List qV) (b:List qV):Int->(Int->Res)->((Unit->Res)×(Bool->Res))->Res:=λv rec q=>j32 a b v (λi=>rec (i)) q.1 q.2
def jex (a:List qV) (b:List qV) (n:Nat) (i:Int) (d:Unit->Res) (f:Bool->Res):Res:=Z1f (j8R a b) n (i) (d,f)
def je7:Z1d Unit:=NdL 41 41 [.R 0 y3 .S,.R 1 y3 .S,.I 5] [] (λb d=>(b.2.2.1)) (λb v=>(b.1,b.2.1,v,())) (λd v=>()) (λb d=>j8R b.1 b.2.1) λb d f=>((λ_=>f (.exit 0) [(0,v1 y3 b.1 .S),(1,v1 y3 b.2.1 .S)] []),(λg=>f .ret [(4,vB g)] []))
theorem jjD:CN 0 26 Tryz.f294 je7:=lK (Za6 jfC Zas) [] oN ([],[]) [(0,[0,1],[])] ([4],[]) λ_ _ _ _ _=>by kernel_rfl
def j3L (a:List qV) (b:List qV) (d:Bool->Res):Res:=jex a b Z1c 0 (λ_=>d (decide ((nI (List.length a))<(nI (List.length b))))) (λt=>d t)
def j69:Sig Unit:=sg [.look y3 false,.look y3 false] [false] [(y3,none),(y3,none)] [] λb f k=>j3L b.1 b.2.1 (λd=>k [wB d] [] [])
theorem jfA:SO 294 j69:=fK (np:=0) (Za6 jfC Zas) [je7] (oI 26 0 @jjD oN) false Tryz.func294 λ_ _ _ _=>by kernel_rfl
theorem jgR:FS [(238,j1T),(268,j3E),(293,j6d),(294,j69)]:=(Za6 j7O (Za6 j5Q (Za6 jdt (Za6 jfA Zas))))
def j2n (l:List qW) (d:List qW) (f:Int) (t:qB×qE×qL) (b:Int) (rec:Int->Res) (h:Unit->Res) (g:Unit->Res):Res:=bif decide (b<f) then bif inb b (List.length d) then j3p t (nth [] d b) λr=>bif !r then g () else bif decide (b>0) then bif inb (Z9K (b-1)) (List.length l) then j0I t (nth [] l (Z9K (b-1))) λi=>j0I t (nth [] d b) λj=>j3L i j λk=>bif !k then g () else rec (Z9K (b+1)) else none else rec (Z9K (b+1)) else none else h ()
def j3M (l:List qW) (b:List qW) (d:Int) (t:qB×qE×qL):Int->(Int->Res)->((Unit->Res)×(Unit->Res))->Res:=λv rec q=>j2n l b d t v (λf=>rec (f)) q.1 q.2
def jbC (l:List qW) (b:List qW) (d:Int) (t:qB×qE×qL) (n:Nat) (f:Int) (g:Unit->Res) (h:Unit->Res):Res:=Z1f (j3M l b d t) n (f) (g,h)
def jb6:Z1d Unit:=NdL 45 45 [.R 1 y31 .S,.t 2 (pB 2),.R 15 y31 .S,.I 16,.I 17] [(2,y29,[.S,.S])] (λb d=>(b.2.2.2.1)) (λb v=>(b.1,b.2.1,b.2.2.1,v,())) (λd v=>((d.1.1,d.1.2),())) (λb d=>j3M b.1 b.2.1 b.2.2.1 d.1.2) λb d f=>((λ_=>f (.exit 0) [] []),(λ_=>f .ret [(4,vB false)] []))
theorem jkC:CN 0 58 Tryz.f251 jb6:=lK jgR [] oN ([],[]) [(0,[],[])] ([4],[]) λ_ _ _ _ _=>by delta j3M j2n j6d j1T j69;refine gz j3p λ_ b=>gz j0I λ_ d=>gz j3L λ_ f=> ?_;rewrite [<-b,<-d,<-f];kernel_rfl
def j0P (t:qB×qE×qL) (l:List qW) (b:Bool->Res):Res:=j0M t λr=>bif !r then b false else bif decide ((nI (List.length l))>60) then b false else jbC l l (nI (List.length l)) t Z1c 0 (λ_=>b true) (λ_=>b false)
def j29:Sig Unit:=sg [.look y29 true,.look y31 false] [false] [(y29,none),(y31,none)] [] λb f k=>j0P b.1 b.2.1 (λd=>k [wB d] [] [])
theorem j78:SO 251 j29:=fK (np:=0) jgR [jb6] (oI 58 0 @jkC oN) false Tryz.func251 λ_ _ _ _=>by delta j0P j3E jb6 jbC;refine gz j0M λ_ b=>gz j3M λ_ d=> ?_;rewrite [<-b,<-d];kernel_rfl
def j2z (f:List qW) (h:Int) (b:List qW) (d:Int) (rec:qR->Int->Res) (g:qR->Res):Res:=bif decide (d<h) then bif inb d (List.length f) then j0u (nth [] f d) λr=>bif lim ((List.length b)+1) then rec (b++[r]) (Z9K (d+1)) else none else none else g b
def j7T (d:List qW) (f:Int):(qR×Int)->(qR×Int->Res)->((qR->Res))->Res:=λv rec q=>j2z d f v.1 v.2 (λb g=>rec (b,g)) q
def jdG (f:List qW) (g:Int) (n:Nat) (b:List qW) (h:Int) (d:qR->Res):Res:=Z1f (j7T f g) n (b,h) (d)
def jcZ:Z1d Unit:=NdL 21 21 [.R 3 y31 .O,.R 6 y31 .S,.I 7,.I 8] [] (λb f=>(b.1,b.2.2.2.1)) (λb v=>(v.1,b.2.1,b.2.2.1,v.2,())) (λf v=>()) (λb f=>j7T b.2.1 b.2.2.1) λb f g=>((λd=>g (.exit 0) [(3,v1 y31 d .O)] []))
theorem jiE:CN 0 58 Tryz.f232 jcZ:=lK (Za6 j4N Zas) [] oN ([],[]) [(0,[3],[])] ([],[]) λ_ _ _ _ _=>by kernel_rfl
def j0t (l:List qW) (d:qR->Res):Res:=jdG l (nI (List.length l)) Z1c [] 0 λb=>d b
def j0Y:Sig Unit:=sg [.borrow y31 false] [false] [(y31,none)] [] λd f k=>j0t d.1 (λb=>k [w1 y31 b .O] [] [])
theorem j4M:SO 232 j0Y:=fK (np:=0) (Za6 j4N Zas) [jcZ] (oI 58 0 @jiE oN) false Tryz.func232 λ_ _ _ _=>by kernel_rfl
theorem j8k:FS [(211,j4b),(232,j0Y),(251,j29),(284,j0O),(317,j6c),(324,jbp)]:=(Za6 jdr (Za6 j4M (Za6 j78 (Za6 j3J (Za6 jfE (Za6 jhm Zas))))))
def j4X (l:List qW) (t:qB×qE×qL) (d:qG) (b:Bool->Res):Res:=j0P t l λr=>bif !r then b true else j2t d λf=>bif !f then b true else bif sNe d.2.1 t.1 then b true else b (d.1==1)
def j4s:Z1d Unit:=Nd 98 98 [.R 1 y31 .S,.t 3 (pB 3),.t 5 (pB 5)] [(3,y29,[.S,.S]),(5,y13,[.S,.S])] λf b g=>j4X f.1 b.1.2 b.2.1.2 (λd=>g .normal [(1,v1 y31 f.1 .S),(3,pB 3),(5,pB 5),(33,vB d)] [(3,⟨y29,b.1.1,b.1.2,[.S,.S]⟩),(5,⟨y13,b.2.1.1,b.2.1.2,[.S,.S]⟩)])
theorem jjG:CN 0 12 Tryz.f298 j4s:=nK j8k [] oN ([1,3,5,33],[3,5]) [] ([],[]) λ_ _ _=>by delta j4X j29 j4b;refine gz j0P λ_ b=>gz j2t λ_ d=> ?_;rewrite [<-b,<-d];kernel_rfl
def j33 (g:Int) (d:qG) (f:List qW) (b:Int) (rec:qR->Int->Res) (h:qR->Res):Res:=bif decide (b<g) then bif inb b (List.length f) then bif inb 0 (List.length d.2.2.1) then bif lim ((List.length (nth [] f b))+1) then bif inb b (List.length (upd f b ((nth [] f b)++[(nth (eS,0,false,false,0,0,eS) d.2.2.1 0).2.2.2.2]))) then bif (Z9o (Int.toNat b) (Int.toNat b)&&true) then rec (upd f b ((nth [] f b)++[(nth (eS,0,false,false,0,0,eS) d.2.2.1 0).2.2.2.2])) (Z9K (b+1)) else none else none else none else none else none else h f
def j5w (f:Int) (d:qG):(qR×Int)->(qR×Int->Res)->((qR->Res))->Res:=λv rec q=>j33 f d v.1 v.2 (λb g=>rec (b,g)) q
def j7v (f:Int) (d:qG) (n:Nat) (b:List qW) (g:Int) (h:qR->Res):Res:=Z1f (j5w f d) n (b,g) (h)
def j70:Z1d Unit:=NdL 98 98 [.t 5 (pB 5),.R 9 y31 .O,.I 51,.I 52] [(5,y13,[.S,.S])] (λb d=>(b.1,b.2.2.1)) (λb v=>(v.1,b.2.1,v.2,())) (λd v=>((d.1.1,d.1.2),())) (λb d=>j5w b.2.1 d.1.2) λb d g=>((λf=>g (.exit 1) [(9,v1 y31 f .O)] []))
theorem jjE:CN 0 16058 Tryz.f298 j70:=lK j8k [j4s] oN ([],[]) [(1,[9],[])] ([],[]) λ_ _ _ _ _=>by kernel_rfl
def j34 (f:Int) (g:Int) (d:List qW) (b:Int) (rec:qR->Int->Res) (h:qR->Res):Res:=bif decide (b<g) then bif inb b (List.length d) then j8X (nth [] d b) f (Z9K (f+1)) λr=>bif inb b (List.length (upd d b r)) then bif (Z9o (Int.toNat b) (Int.toNat b)&&true) then rec (upd d b r) (Z9K (b+1)) else none else none else none else h d
def j5x (b:Int) (f:Int):(qR×Int)->(qR×Int->Res)->((qR->Res))->Res:=λv rec q=>j34 b f v.1 v.2 (λd g=>rec (d,g)) q
def j7w (b:Int) (f:Int) (n:Nat) (d:List qW) (g:Int) (h:qR->Res):Res:=Z1f (j5x b f) n (d,g) (h)
def ja1:Z1d Unit:=NdL 98 98 [.R 9 y31 .O,.I 11,.I 79,.I 80] [] (λb f=>(b.1,b.2.2.2.1)) (λb v=>(v.1,b.2.1,b.2.2.1,v.2,())) (λf v=>()) (λb f=>j5x b.2.1 b.2.2.1) λb f g=>((λd=>g (.exit 3) [(9,v1 y31 d .O)] []))
theorem jjF:CN 0 128502 Tryz.f298 ja1:=lK j8k [j4s,j70] oN ([],[]) [(3,[9],[])] ([],[]) λ_ _ _ _ _=>by kernel_rfl
def j5V (t:qB×qE×qL) (l:List qW) (d:qG) (b:qR->Int->Res):Res:=j4X l t d λj=>bif j then b [] 1 else j2A [t] d λr=>bif (r != 0) then b [] r else j0t l λg=>bif (d.1==2) then b [] 0 else bif (d.1==3) then j7v (nI (List.length g)) d Z1c g 0 λh=>b h 0 else bif (d.1==4) then j0f t d.2.2.2.2.1 λi=>j7w i (nI (List.length g)) Z1c g 0 λf=>b f 0 else b g 0
def jbN:Sig Unit:=sg [.borrow y29 true,.borrow y31 false,.borrow y13 true] [false,false] [(y29,none),(y31,none),(y13,none)] [] λb g k=>j5V b.1 b.2.1 b.2.2.1 (λd f=>k [w1 y31 d .O,wI f] [] [])
theorem jlo:SO 298 jbN:=fK (np:=0) j8k [j4s,j70,ja1] (oI 12 0 @jjG (oI 16058 1 @jjE (oI 128502 2 @jjF oN))) false Tryz.func298 λ_ _ _ _=>by delta j5V j4s j6c j0Y j70 j0O ja1 j7v j7w;refine gz j4X λ_ b=>gz j2A λ_ d=>gz j0t λ_ f=>gz j5w λ_ g=>gz j0f λ_ h=>gz j5x λ_ i=> ?_;rewrite [<-b,<-d,<-f,<-g,<-h,<-i];kernel_rfl
def jcb (r:List qV) (g:qB×qE×qL) (h:List qV) (b:Bool->Res):Res:=j0I g r λd=>j1y d h λf=>b f
def jni:Sig Unit:=sg [.look y3 true,.rptr y29,.rptr y3] [false] [(y3,none),(y29,none),(y3,none)] [] λb f k=>jcb b.1 b.2.1 b.2.2.1 (λd=>k [wB d] [] [])
theorem jh0:SO 237 jni:=fK (np:=0) (Za6 jcg (Za6 j7O Zas)) [] oN false Tryz.func237 λ_ _ _ _=>by delta jcb j1T j59;refine gz j0I λ_ b=>gz j1y λ_ d=> ?_;rewrite [<-b,<-d];kernel_rfl
def j10 (s:List qW) (f:qT×List qV) (h:Int) (b:Int) (rec:Int->Res) (d:Unit->Res) (g:Int->Res):Res:=bif decide (b<h) then bif inb b (List.length s) then jcb (nth [] s b) f.1 f.2 λr=>bif r then g b else rec (Z9K (b+1)) else none else d ()
def j3r (s:List qW) (f:qT×List qV) (b:Int):Int->(Int->Res)->((Unit->Res)×(Int->Res))->Res:=λv rec q=>j10 s f b v (λd=>rec (d)) q.1 q.2
def j8N (s:List qW) (f:qT×List qV) (g:Int) (n:Nat) (h:Int) (b:Unit->Res) (d:Int->Res):Res:=Z1f (j3r s f g) n (h) (b,d)
def j8g:Z1d Unit:=NdL 19 19 [.R 0 y31 .S,.c 1 237 [y29,y3] y36 [.S,.S,.S],.I 7,.I 8] [] (λb d=>(b.2.2.2.1)) (λb v=>(b.1,b.2.1,b.2.2.1,v,())) (λd v=>()) (λb d=>j3r b.1 b.2.1 b.2.2.1) λb d f=>((λ_=>f (.exit 0) [] []),(λg=>f .ret [(4,vI g)] []))
theorem jdU:CN 0 26 Tryz.f236 j8g:=lK (Za6 jh0 Zas) [] oN ([],[]) [(0,[],[])] ([4],[]) λ_ _ _ _ _=>by kernel_rfl
def j6Q (s:List qW) (f:qT×List qV) (b:Int->Res):Res:=j8N s f (nI (List.length s)) Z1c 0 (λ_=>b (-1)) (λt=>b t)
def jfn:Sig Unit:=sg [.look y31 false,.rclos 237 [y29,y3]] [false] [(y31,none),(y36,none)] [] λb f k=>j6Q b.1 b.2.1 (λd=>k [wI d] [] [])
theorem jfa:SO 236 jfn:=fK (np:=0) (Za6 jh0 Zas) [j8g] (oI 26 0 @jdU oN) false Tryz.func236 λ_ _ _ _=>by kernel_rfl
def j0J (t:qB×qE×qL) (l:List qW) (b:List qV) (d:Int->Res):Res:=j6Q l (t,b) λr=>d r
def j4c:Sig Unit:=sg [.look y29 true,.look y31 false,.look y3 false] [false] [(y29,none),(y31,none),(y3,none)] [] λb f k=>j0J b.1 b.2.1 b.2.2.1 (λd=>k [wI d] [] [])
theorem jap:SO 177 j4c:=fK (np:=0) (Za6 jfa Zas) [] oN false Tryz.func177 λ_ _ _ _=>by kernel_rfl
theorem jgU:FS [(178,j57),(232,j0Y),(238,j1T),(294,j69),(325,j7t)]:=(Za6 j4N (Za6 j4M (Za6 j7O (Za6 jfA (Za6 jhn Zas)))))
def j2o (l:List qW) (t:qB×qE×qL) (r:List qV) (b:Int) (rec:Int->Res) (d:Int->Res):Res:=bif decide (b<(nI (List.length l))) then bif inb b (List.length l) then j0I t (nth [] l b) λf=>j0I t r λg=>j3L f g λh=>bif h then rec (Z9K (b+1)) else d b else none else d b
def j3Q (l:List qW) (t:qB×qE×qL) (r:List qV):Int->(Int->Res)->((Int->Res))->Res:=λv rec q=>j2o l t r v (λb=>rec (b)) q
def jbF (l:List qW) (t:qB×qE×qL) (r:List qV) (n:Nat) (b:Int) (d:Int->Res):Res:=Z1f (j3Q l t r) n (b) (d)
def jba:Z1d Unit:=NdL 35 35 [.R 1 y31 .S,.t 3 (pB 3),.t 5 (pB 5),.I 7] [(3,y29,[.S,.S]),(5,y3,[.S])] (λd b=>(d.2.1)) (λd v=>(d.1,v,())) (λb v=>((b.1.1,b.1.2),(b.2.1.1,b.2.1.2),())) (λd b=>j3Q d.1 b.1.2 b.2.1.2) λd b g=>((λf=>g (.exit 0) [(1,v1 y31 d.1 .S),(5,pB 5),(7,vI f)] [(5,⟨y3,b.2.1.1,b.2.1.2,[.S]⟩)]))
theorem jkG:CN 0 28 Tryz.f299 jba:=lK jgU [] oN ([],[]) [(0,[1,5,7],[5])] ([],[]) λ_ _ _ _ _=>by delta j3Q j2o j1T j69;refine gz j0I λ_ b=>gz j3L λ_ d=> ?_;rewrite [<-b,<-d];kernel_rfl
def j2u (t:qB×qE×qL) (l:List qW) (r:List qV) (d:qR->Res):Res:=jbF l t r Z1c 0 λb=>j0t l λf=>j0u r λg=>j5z f b [g] λh=>d h
def j9v:Sig Unit:=sg [.borrow y29 true,.borrow y31 false,.borrow y3 true] [false] [(y29,none),(y31,none),(y3,none)] [] λb f k=>j2u b.1 b.2.1 b.2.2.1 (λd=>k [w1 y31 d .O] [] [])
theorem jgZ:SO 299 j9v:=fK (np:=0) jgU [jba] (oI 28 0 @jkG oN) false Tryz.func299 λ_ _ _ _=>by delta j2u jba j0Y j57 j7t jbF;refine gz j3Q λ_ b=>gz j0t λ_ d=>gz j0u λ_ f=>gz j5z λ_ g=> ?_;rewrite [<-b,<-d,<-f,<-g];kernel_rfl
def j7l (t:qB×qE×qL) (l:List qW) (r:List qV) (b:qR->Int->Res):Res:=j0P t l λd=>bif !d then b [] 1 else j3p t r λf=>bif !f then b [] 2 else j0I t r λg=>j0J t l g λh=>bif decide (h>=0) then b [] 3 else bif ((nI (List.length l))==60) then b [] 4 else j2u t l r λi=>b i 0
def jcD:Sig Unit:=sg [.borrow y29 true,.borrow y31 false,.borrow y3 true] [false,false] [(y29,none),(y31,none),(y3,none)] [] λb g k=>j7l b.1 b.2.1 b.2.2.1 (λd f=>k [w1 y31 d .O,wI f] [] [])
theorem jmE:SO 253 jcD:=fK (np:=0) (Za6 jap (Za6 j7O (Za6 j78 (Za6 jdt (Za6 jgZ Zas))))) [] oN false Tryz.func253 λ_ _ _ _=>by delta j7l j29 j6d j1T j4c j9v;refine gz j0P λ_ b=>gz j3p λ_ d=>gz j0I λ_ f=>gz j0J λ_ g=>gz j2u λ_ h=> ?_;rewrite [<-b,<-d,<-f,<-g,<-h];kernel_rfl
theorem jhq:FS [(268,j3E),(273,j81),(284,j0O)]:=(Za6 j5Q (Za6 j7N (Za6 j3J Zas)))
def j2M (d:List qV) (f:qL) (g:Int) (t:qB×qE×qL) (b:Int) (rec:Int->Res) (j:Unit->Res) (h:Unit->Res):Res:=bif decide (b<g) then bif inb b (List.length f) then bif inb b (List.length d) then j16 (nth (0,0,eS) d b) λr=>bif !r then h () else bif inb b (List.length d) then j0f t (nth eS f b) λi=>bif inb i (List.length t.2.1) then bif ((nth (0,0,eS) d b).1 != (nth (eS,0,false,false,0,0,eS) t.2.1 i).2.1) then h () else rec (Z9K (b+1)) else none else none else none else none else j ()
def j4V (b:List qV) (d:qL) (f:Int) (t:qB×qE×qL):Int->(Int->Res)->((Unit->Res)×(Unit->Res))->Res:=λv rec q=>j2M b d f t v (λg=>rec (g)) q.1 q.2
def jcy (b:List qV) (d:qL) (f:Int) (t:qB×qE×qL) (n:Nat) (g:Int) (h:Unit->Res) (i:Unit->Res):Res:=Z1f (j4V b d f t) n (g) (h,i)
def jc2:Z1d Unit:=NdL 49 49 [.R 1 y3 .S,.t 2 (pB 2),.R 19 y0 .S,.I 20,.I 21] [(2,y29,[.S,.S])] (λb d=>(b.2.2.2.1)) (λb v=>(b.1,b.2.1,b.2.2.1,v,())) (λd v=>((d.1.1,d.1.2),())) (λb d=>j4V b.1 b.2.1 b.2.2.1 d.1.2) λb d f=>((λ_=>f (.exit 0) [] []),(λ_=>f .ret [(4,vB false)] []))
theorem jlP:CN 0 58 Tryz.f300 jc2:=lK jhq [] oN ([],[]) [(0,[],[])] ([4],[]) λ_ _ _ _ _=>by delta j4V j2M j81 j0O;refine gz j16 λ_ b=>gz j0f λ_ d=> ?_;rewrite [<-b,<-d];kernel_rfl
def j4U (t:qB×qE×qL) (b:List qV) (d:Bool->Res):Res:=j0M t λr=>bif !r then d false else bif ((nI (List.length b)) != (nI (List.length t.2.2))) then d false else jcy b t.2.2 (nI (List.length t.2.2)) t Z1c 0 (λ_=>d true) (λ_=>d false)
def jaR:Sig Unit:=sg [.look y29 true,.look y3 false] [false] [(y29,none),(y3,none)] [] λb f k=>j4U b.1 b.2.1 (λd=>k [wB d] [] [])
theorem jhy:SO 300 jaR:=fK (np:=0) jhq [jc2] (oI 58 0 @jlP oN) false Tryz.func300 λ_ _ _ _=>by delta j4U j3E jc2 jcy;refine gz j0M λ_ b=>gz j4V λ_ d=> ?_;rewrite [<-b,<-d];kernel_rfl
theorem jgQ:FS [(128,j59),(177,j4c),(232,j0Y),(238,j1T),(251,j29),(293,j6d),(299,j9v),(300,jaR),(301,j4x)]:=(Za6 jcg (Za6 jap (Za6 j4M (Za6 j7O (Za6 j78 (Za6 jdt (Za6 jgZ (Za6 jhy (Za6 jbl Zas)))))))))
def j5U (l:List qW) (b:List qV) (now:List qV) (t:qB×qE×qL) (d:Unit->Res) (f:Unit->Res):Res:=j1y now b λg=>bif !g then j0J t l now λh=>bif decide (h>=0) then f () else d () else d ()
def jb5:Z1d Unit:=Nd 61 61 [.R 1 y31 .S,.R 2 y3 .S,.t 4 (pB 4),.t 7 (pB 7),.R 10 y3 .O] [(4,y29,[.S,.S]),(7,y3,[.S])] λb d f=>j5U b.1 b.2.1 b.2.2.1 d.1.2 (λ_=>f .normal [(1,v1 y31 b.1 .S),(2,v1 y3 b.2.1 .S),(4,pB 4),(7,pB 7)] [(4,⟨y29,d.1.1,d.1.2,[.S,.S]⟩),(7,⟨y3,d.2.1.1,d.2.1.2,[.S]⟩)]) (λ_=>f .ret [(8,v1 y31 [] .O),(9,vI 3)] [])
theorem jkB:CN 0 30 Tryz.f254 jb5:=nK jgQ [] oN ([1,2,4,7],[4,7]) [] ([8,9],[]) λ_ _ _=>by delta j5U j59 j4c;refine gz j1y λ_ b=>gz j0J λ_ d=> ?_;rewrite [<-b,<-d];kernel_rfl
def j7m (t:qB×qE×qL) (l:List qW) (b:List qV) (r:List qV) (d:qR->Int->Res):Res:=j0P t l λg=>bif !g then d [] 1 else j3p t r λh=>bif !h then d [] 2 else j4U t b λi=>bif !i then d [] 5 else j0J t l b λj=>bif decide (j<0) then d [] 5 else j0I t r λk=>j5U l b k t (λ_=>j0J t l b λf=>j0t l λm=>j0U m f (Z9K (f+1)) λn=>j2u t n r λp=>d p 0) (λ_=>d [] 3)
def jcE:Sig Unit:=sg [.borrow y29 true,.borrow y31 false,.borrow y3 false,.borrow y3 true] [false,false] [(y29,none),(y31,none),(y3,none),(y3,none)] [] λb g k=>j7m b.1 b.2.1 b.2.2.1 b.2.2.2.1 (λd f=>k [w1 y31 d .O,wI f] [] [])
theorem jmF:SO 254 jcE:=fK (np:=0) jgQ [jb5] (oI 30 0 @jkB oN) false Tryz.func254 λ_ _ _ _=>by delta j7m j29 j6d jaR j4c j1T jb5 j0Y j4x j9v;refine gz j0P λ_ b=>gz j3p λ_ d=>gz j4U λ_ f=>gz j0J λ_ g=>gz j0I λ_ h=>gz j5U λ_ i=>gz j0t λ_ j=>gz j0U λ_ k=>gz j2u λ_ l=> ?_;rewrite [<-b,<-d,<-f,<-g,<-h,<-i,<-j,<-k,<-l];kernel_rfl
def j7k (t:qB×qE×qL) (l:List qW) (b:List qV) (d:qR->Int->Res):Res:=j0P t l λr=>bif !r then d [] 1 else j4U t b λg=>bif !g then d [] 5 else j0J t l b λh=>bif decide (h<0) then d [] 5 else j0J t l b λf=>j0t l λi=>j0U i f (Z9K (f+1)) λj=>d j 0
def jcC:Sig Unit:=sg [.borrow y29 true,.borrow y31 false,.borrow y3 false] [false,false] [(y29,none),(y31,none),(y3,none)] [] λb g k=>j7k b.1 b.2.1 b.2.2.1 (λd f=>k [w1 y31 d .O,wI f] [] [])
theorem jmD:SO 255 jcC:=fK (np:=0) (Za6 jap (Za6 j4M (Za6 j78 (Za6 jhy (Za6 jbl Zas))))) [] oN false Tryz.func255 λ_ _ _ _=>by delta j7k j29 jaR j4c j0Y j4x;refine gz j0P λ_ b=>gz j4U λ_ d=>gz j0J λ_ f=>gz j0t λ_ g=>gz j0U λ_ h=> ?_;rewrite [<-b,<-d,<-f,<-g,<-h];kernel_rfl
end
end Go.PI.G
