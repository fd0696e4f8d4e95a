/-
  Program's code interpreted over typed values; printed texts; plain laws. No conditions.
-/
import Derived.Test.YtnemiodjnhfejaaGreatMId
import Derived.Test.YtnemiodjnhfejaaGreatMIe
import Derived.Test.YtnemiodjnhfejaaGreatMIf
set_option linter.unusedVariables false
set_option maxRecDepth 100000
namespace Go.PI.G
noncomputable section
open Go Go.PI Go.Proofs
open Go.Code (pl pr)
def j0t (r:List qV) (b:qW->Res):Res:=bif lim (0+(List.length r)) then b r else none
def j6a:Sig Unit:=sg [.borrow y3 true] [true] [(y3,none)] [] λd f k=>j0t d.1 (λb=>k [⟨y3,true,b,[.O]⟩] [] [])
theorem j3V:SO 115 j6a:=fK (np:=0) Zas [] oN false Tryz.func115 λ_ _ _ _=>by kernel_rfl
def j3D (c:qB×Int×Bool×Bool×Int×Int×qB) (d:Int×Int×qB) (b:Bool->Res):Res:=bif (d.1==0) then j18 d λr=>bif r then b (!c.2.2.1) else b false else j18 d λf=>bif f then b (d.1==c.2.1) else b false
def j7w:Sig Unit:=sg [.look y7 true,.look y2 true] [false] [(y7,none),(y2,none)] [] λb f k=>j3D b.1 b.2.1 (λd=>k [wB d] [] [])
theorem je1:SO 281 j7w:=fK (np:=0) (Za6 j6Q Zas) [] oN false Tryz.func281 λ_ _ _ _=>by delta j3D j9t;refine gz j18 λ_ b=> ?_;rewrite [<-b];kernel_rfl
theorem jfL:FS [(227,j0W),(281,j7w)]:=(Za6 j30 (Za6 je1 Zas))
def j4p (d:List qC) (f:Int) (r:List qV) (b:Int) (rec:Int->Res) (g:Unit->Res) (h:Unit->Res):Res:=bif decide (b<f) then bif inb b (List.length d) then bif inb b (List.length r) then j3D (nth (eS,0,false,false,0,0,eS) d b) (nth (0,0,eS) r b) λi=>bif !i then h () else rec (Z9K (b+1)) else none else none else g ()
def j6H (b:List qC) (d:Int) (r:List qV):Int->(Int->Res)->((Unit->Res)×(Unit->Res))->Res:=λv rec q=>j4p b d r v (λf=>rec (f)) q.1 q.2
def jbi (b:List qC) (d:Int) (r:List qV) (n:Nat) (f:Int) (g:Unit->Res) (h:Unit->Res):Res:=Z1f (j6H b d r) n (f) (g,h)
def jaI:Z1d Unit:=NdL 36 36 [.t 3 (pB 3),.R 20 y8 .S,.I 21,.I 22] [(3,y3,[.S])] (λb d=>(b.2.2.1)) (λb v=>(b.1,b.2.1,v,())) (λd v=>((d.1.1,d.1.2),())) (λb d=>j6H b.1 b.2.1 d.1.2) λb d f=>((λ_=>f (.exit 0) [] []),(λ_=>f .ret [(4,vB false)] []))
theorem jjF:CN 0 58 Tryz.f228 jaI:=lK jfL [] oN ([],[]) [(0,[],[])] ([4],[]) λ_ _ _ _ _=>by kernel_rfl
def j21 (t:qB×qE×qL) (r:List qV) (b:Bool->Res):Res:=j0o t λd=>bif !d then b false else bif ((nI (List.length r)) != (nI (List.length t.2.1))) then b false else jbi t.2.1 (nI (List.length t.2.1)) r Z1c 0 (λ_=>b true) (λ_=>b false)
def j74:Sig Unit:=sg [.look y29 true,.look y3 true] [false] [(y29,none),(y3,none)] [] λb f k=>j21 b.1 b.2.1 (λd=>k [wB d] [] [])
theorem jbY:SO 228 j74:=fK (np:=0) jfL [jaI] (oI 58 0 @jjF oN) false Tryz.func228 λ_ _ _ _=>by delta j21 j0W jaI jbi;refine gz j0o λ_ b=>gz j6H λ_ d=> ?_;rewrite [<-b,<-d];kernel_rfl
def j3E (f:qL) (g:Int) (t:qB×qE×qL) (r:List qV) (d:List qV) (b:Int) (rec:qW->Int->Res) (i:qW->Res):Res:=bif decide (b<g) then bif inb b (List.length f) then j0B t (nth eS f b) λh=>bif inb h (List.length r) then bif lim ((List.length d)+1) then rec (d++[nth (0,0,eS) r h]) (Z9K (b+1)) else none else none else none else i d
def j8G (d:qL) (f:Int) (t:qB×qE×qL) (r:List qV):(qW×Int)->(qW×Int->Res)->((qW->Res))->Res:=λv rec q=>j3E d f t r v.1 v.2 (λb g=>rec (b,g)) q
def jeo (d:qL) (f:Int) (t:qB×qE×qL) (r:List qV) (n:Nat) (b:List qV) (g:Int) (h:qW->Res):Res:=Z1f (j8G d f t r) n (b,g) (h)
def jdl:Z1d Unit:=NdL 28 28 [.t 2 (pB 2),.t 3 (pB 3),.R 5 y3 .O,.R 10 y0 .S,.I 11,.I 12] [(2,y29,[.S,.S]),(3,y3,[.S])] (λb d=>(b.1,b.2.2.2.1)) (λb v=>(v.1,b.2.1,b.2.2.1,v.2,())) (λd v=>((d.1.1,d.1.2),(d.2.1.1,d.2.1.2),())) (λb d=>j8G b.2.1 b.2.2.1 d.1.2 d.2.1.2) λb d g=>((λf=>g (.exit 0) [(5,v1 y3 f .O)] []))
theorem jiN:CN 0 58 Tryz.f173 jdl:=lK (Za6 j4X Zas) [] oN ([],[]) [(0,[5],[])] ([],[]) λ_ _ _ _ _=>by kernel_rfl
def j0s (t:qB×qE×qL) (r:List qV) (d:qW->Res):Res:=jeo t.2.2 (nI (List.length t.2.2)) t r Z1c [] 0 λb=>d b
def j17:Sig Unit:=sg [.borrow y29 true,.borrow y3 true] [false] [(y29,none),(y3,none)] [] λb f k=>j0s b.1 b.2.1 (λd=>k [w1 y3 d .O] [] [])
theorem j65:SO 173 j17:=fK (np:=0) (Za6 j4X Zas) [jdl] (oI 58 0 @jiN oN) false Tryz.func173 λ_ _ _ _=>by kernel_rfl
def j2F (a:List qV) (b:List qV) (i:Int) (rec:Int->Res) (d:Unit->Res) (f:Bool->Res):Res:=bif decide (i<(nI (List.length a))) then bif decide (i<(nI (List.length b))) then bif inb i (List.length a) then bif inb i (List.length b) then bif !(((nth (0,0,eS) a i).1==(nth (0,0,eS) b i).1)&&(((nth (0,0,eS) a i).2.1==(nth (0,0,eS) b i).2.1)&&(sEq (nth (0,0,eS) a i).2.2 (nth (0,0,eS) b i).2.2))) then bif inb i (List.length a) then bif inb i (List.length b) then j79 (nth (0,0,eS) a i) (nth (0,0,eS) b i) λr=>f r else none else none else rec (Z9K (i+1)) else none else none else d () else d ()
def j7P (a:List qV) (b:List qV):Int->(Int->Res)->((Unit->Res)×(Bool->Res))->Res:=λv rec q=>j2F a b v (λi=>rec (i)) q.1 q.2
def jd2 (a:List qV) (b:List qV) (n:Nat) (i:Int) (d:Unit->Res) (f:Bool->Res):Res:=Z1f (j7P a b) n (i) (d,f)
def jcx:Z1d Unit:=NdL 41 41 [.R 0 y3 .S,.R 1 y3 .S,.I 5] [] (λb d=>(b.2.2.1)) (λb v=>(b.1,b.2.1,v,())) (λd v=>()) (λb d=>j7P b.1 b.2.1) λb d f=>((λ_=>f (.exit 0) [(0,v1 y3 b.1 .S),(1,v1 y3 b.2.1 .S)] []),(λg=>f .ret [(4,vB g)] []))
theorem jhJ:CN 0 26 Tryz.f229 jcx:=lK (Za6 jdY Zas) [] oN ([],[]) [(0,[0,1],[])] ([4],[]) λ_ _ _ _ _=>by kernel_rfl
def j3x (a:List qV) (b:List qV) (d:Bool->Res):Res:=jd2 a b Z1c 0 (λ_=>d (decide ((nI (List.length a))<(nI (List.length b))))) (λt=>d t)
def j5m:Sig Unit:=sg [.look y3 false,.look y3 false] [false] [(y3,none),(y3,none)] [] λb f k=>j3x b.1 b.2.1 (λd=>k [wB d] [] [])
theorem jdX:SO 229 j5m:=fK (np:=0) (Za6 jdY Zas) [jcx] (oI 26 0 @jhJ oN) false Tryz.func229 λ_ _ _ _=>by kernel_rfl
theorem jf3:FS [(173,j17),(227,j0W),(228,j74),(229,j5m)]:=(Za6 j65 (Za6 j30 (Za6 jbY (Za6 jdX Zas))))
def j1V (l:List qW) (d:List qW) (f:Int) (t:qB×qE×qL) (b:Int) (rec:Int->Res) (h:Unit->Res) (g:Unit->Res):Res:=bif decide (b<f) then bif inb b (List.length d) then j21 t (nth [] d b) λr=>bif !r then g () else bif decide (b>0) then bif inb (Z9K (b-1)) (List.length l) then j0s t (nth [] l (Z9K (b-1))) λi=>j0s t (nth [] d b) λj=>j3x i j λk=>bif !k then g () else rec (Z9K (b+1)) else none else rec (Z9K (b+1)) else none else h ()
def j3y (l:List qW) (b:List qW) (d:Int) (t:qB×qE×qL):Int->(Int->Res)->((Unit->Res)×(Unit->Res))->Res:=λv rec q=>j1V l b d t v (λf=>rec (f)) q.1 q.2
def jav (l:List qW) (b:List qW) (d:Int) (t:qB×qE×qL) (n:Nat) (f:Int) (g:Unit->Res) (h:Unit->Res):Res:=Z1f (j3y l b d t) n (f) (g,h)
def j9T:Z1d Unit:=NdL 45 45 [.R 1 y31 .S,.t 2 (pB 2),.R 15 y31 .S,.I 16,.I 17] [(2,y29,[.S,.S])] (λb d=>(b.2.2.2.1)) (λb v=>(b.1,b.2.1,b.2.2.1,v,())) (λd v=>((d.1.1,d.1.2),())) (λb d=>j3y b.1 b.2.1 b.2.2.1 d.1.2) λb d f=>((λ_=>f (.exit 0) [] []),(λ_=>f .ret [(4,vB false)] []))
theorem jiH:CN 0 58 Tryz.f172 j9T:=lK jf3 [] oN ([],[]) [(0,[],[])] ([4],[]) λ_ _ _ _ _=>by delta j3y j1V j74 j17 j5m;refine gz j21 λ_ b=>gz j0s λ_ d=>gz j3x λ_ f=> ?_;rewrite [<-b,<-d,<-f];kernel_rfl
def j0r (t:qB×qE×qL) (l:List qW) (b:Bool->Res):Res:=j0o t λr=>bif !r then b false else bif decide ((nI (List.length l))>60) then b false else jav l l (nI (List.length l)) t Z1c 0 (λ_=>b true) (λ_=>b false)
def j16:Sig Unit:=sg [.look y29 true,.look y31 false] [false] [(y29,none),(y31,none)] [] λb f k=>j0r b.1 b.2.1 (λd=>k [wB d] [] [])
theorem j3U:SO 172 j16:=fK (np:=0) jf3 [j9T] (oI 58 0 @jiH oN) false Tryz.func172 λ_ _ _ _=>by delta j0r j0W j9T jav;refine gz j0o λ_ b=>gz j3y λ_ d=> ?_;rewrite [<-b,<-d];kernel_rfl
def j2M (f:List qW) (h:Int) (b:List qW) (d:Int) (rec:qR->Int->Res) (g:qR->Res):Res:=bif decide (d<h) then bif inb d (List.length f) then j0t (nth [] f d) λr=>bif lim ((List.length b)+1) then rec (b++[r]) (Z9K (d+1)) else none else none else g b
def j7S (d:List qW) (f:Int):(qR×Int)->(qR×Int->Res)->((qR->Res))->Res:=λv rec q=>j2M d f v.1 v.2 (λb g=>rec (b,g)) q
def jd5 (f:List qW) (g:Int) (n:Nat) (b:List qW) (h:Int) (d:qR->Res):Res:=Z1f (j7S f g) n (b,h) (d)
def jcA:Z1d Unit:=NdL 20 20 [.R 3 y31 .O,.R 7 y31 .S,.I 8,.I 9] [] (λb f=>(b.1,b.2.2.2.1)) (λb v=>(v.1,b.2.1,b.2.2.1,v.2,())) (λf v=>()) (λb f=>j7S b.2.1 b.2.2.1) λb f g=>((λd=>g (.exit 0) [(3,v1 y31 d .O)] []))
theorem jhT:CN 0 58 Tryz.f244 jcA:=lK (Za6 j3V Zas) [] oN ([],[]) [(0,[3],[])] ([],[]) λ_ _ _ _ _=>by kernel_rfl
def j5z (l:List qW) (d:qR->Res):Res:=jd5 l (nI (List.length l)) Z1c [] 0 λb=>d b
def j7v:Sig Unit:=sg [.borrow y31 false] [false] [(y31,none)] [] λd f k=>j5z d.1 (λb=>k [w1 y31 b .O] [] [])
theorem je0:SO 244 j7v:=fK (np:=0) (Za6 j3V Zas) [jcA] (oI 58 0 @jhT oN) false Tryz.func244 λ_ _ _ _=>by kernel_rfl
def j1j (a:List qV) (b:List qV) (f:Int) (d:Int) (rec:Int->Res) (g:Unit->Res) (h:Unit->Res):Res:=bif decide (d<f) then bif inb d (List.length a) then bif inb d (List.length b) then bif !(((nth (0,0,eS) a d).1==(nth (0,0,eS) b d).1)&&(((nth (0,0,eS) a d).2.1==(nth (0,0,eS) b d).2.1)&&(sEq (nth (0,0,eS) a d).2.2 (nth (0,0,eS) b d).2.2))) then h () else rec (Z9K (d+1)) else none else none else g ()
def j5B (a:List qV) (b:List qV) (d:Int):Int->(Int->Res)->((Unit->Res)×(Unit->Res))->Res:=λv rec q=>j1j a b d v (λf=>rec (f)) q.1 q.2
def ja4 (a:List qV) (b:List qV) (d:Int) (n:Nat) (f:Int) (g:Unit->Res) (h:Unit->Res):Res:=Z1f (j5B a b d) n (f) (g,h)
def j9X:Z1d Unit:=NdL 26 26 [.R 0 y3 .S,.R 1 y3 .S,.I 12,.I 13] [] (λb d=>(b.2.2.2.1)) (λb v=>(b.1,b.2.1,b.2.2.1,v,())) (λd v=>()) (λb d=>j5B b.1 b.2.1 b.2.2.1) λb d f=>((λ_=>f (.exit 0) [] []),(λ_=>f .ret [(4,vB false)] []))
theorem jeP:CN 0 58 Tryz.f126 j9X:=lK Zas [] oN ([],[]) [(0,[],[])] ([4],[]) λ_ _ _ _ _=>by kernel_rfl
def j3G (a:List qV) (b:List qV) (d:Bool->Res):Res:=bif ((nI (List.length a)) != (nI (List.length b))) then d false else ja4 a b (nI (List.length a)) Z1c 0 (λ_=>d true) (λ_=>d false)
def j75:Sig Unit:=sg [.look y3 false,.look y3 false] [false] [(y3,none),(y3,none)] [] λb f k=>j3G b.1 b.2.1 (λd=>k [wB d] [] [])
theorem jg1:SO 126 j75:=fK (np:=0) Zas [j9X] (oI 58 0 @jeP oN) false Tryz.func126 λ_ _ _ _=>by kernel_rfl
theorem jfK:FS [(126,j75),(172,j16),(173,j17)]:=(Za6 jg1 (Za6 j3U (Za6 j65 Zas)))
def j2l (f:List qV) (d:List qW) (g:Int) (t:qB×qE×qL) (b:Int) (rec:Int->Res) (h:Unit->Res) (i:Int->Res):Res:=bif decide (b<g) then bif inb b (List.length d) then j0s t (nth [] d b) λr=>j3G r f λj=>bif j then i b else rec (Z9K (b+1)) else none else h ()
def j4o (b:List qV) (d:List qW) (f:Int) (t:qB×qE×qL):Int->(Int->Res)->((Unit->Res)×(Int->Res))->Res:=λv rec q=>j2l b d f t v (λg=>rec (g)) q.1 q.2
def jbh (b:List qV) (d:List qW) (f:Int) (t:qB×qE×qL) (n:Nat) (g:Int) (h:Unit->Res) (i:Int->Res):Res:=Z1f (j4o b d f t) n (g) (h,i)
def jaH:Z1d Unit:=NdL 27 27 [.R 2 y3 .S,.t 3 (pB 3),.R 13 y31 .S,.I 14,.I 15] [(3,y29,[.S,.S])] (λb d=>(b.2.2.2.1)) (λb v=>(b.1,b.2.1,b.2.2.1,v,())) (λd v=>((d.1.1,d.1.2),())) (λb d=>j4o b.1 b.2.1 b.2.2.1 d.1.2) λb d f=>((λ_=>f (.exit 0) [] []),(λg=>f .ret [(6,vI g)] []))
theorem jjE:CN 0 58 Tryz.f114 jaH:=lK jfK [] oN ([],[]) [(0,[],[])] ([6],[]) λ_ _ _ _ _=>by delta j4o j2l j17 j75;refine gz j0s λ_ b=>gz j3G λ_ d=> ?_;rewrite [<-b,<-d];kernel_rfl
def j1s (t:qB×qE×qL) (l:List qW) (d:List qV) (b:Int->Res):Res:=j0r t l λr=>bif !r then b (-1) else jbh d l (nI (List.length l)) t Z1c 0 (λ_=>b (-1)) (λf=>b f)
def j9s:Sig Unit:=sg [.look y29 true,.look y31 false,.look y3 false] [false] [(y29,none),(y31,none),(y3,none)] [] λb f k=>j1s b.1 b.2.1 b.2.2.1 (λd=>k [wI d] [] [])
theorem jbX:SO 114 j9s:=fK (np:=0) jfK [jaH] (oI 58 0 @jjE oN) false Tryz.func114 λ_ _ _ _=>by delta j1s j16 jaH jbh;refine gz j0r λ_ b=>gz j4o λ_ d=> ?_;rewrite [<-b,<-d];kernel_rfl
theorem jb0:FS [(115,j6a),(173,j17),(229,j5m)]:=(Za6 j3V (Za6 j65 (Za6 jdX Zas)))
def j5A (b:List qW) (done:Bool) (t:qB×qE×qL) (r:List qV) (x:List qV) (d:qR->Bool->Res):Res:=bif !done then j0s t r λf=>j0s t x λg=>j3x f g λh=>bif h then j0t r λi=>bif lim ((List.length b)+1) then d (b++[i]) true else none else d b done else d b done
def j6N:Z1d Unit:=Nd 48 48 [.t 3 (pB 3),.t 5 (pB 5),.R 7 y31 .O,.B 8,.t 10 (pB 10),.R 12 y31 .S,.I 13,.I 14] [(3,y29,[.S,.S]),(5,y3,[.S]),(10,y3,[.S])] λg b h=>j5A g.1 g.2.1 b.1.2 b.2.1.2 b.2.2.1.2 (λf d=>h .normal [(3,pB 3),(5,pB 5),(7,v1 y31 f .O),(8,vB d),(10,pB 10),(12,v1 y31 g.2.2.1 .S),(13,vI g.2.2.2.1),(14,vI g.2.2.2.2.1)] [(3,⟨y29,b.1.1,b.1.2,[.S,.S]⟩),(5,⟨y3,b.2.1.1,b.2.1.2,[.S]⟩),(10,⟨y3,b.2.2.1.1,b.2.2.1.2,[.S]⟩)])
theorem jiP:CN 0 15666 Tryz.f312 j6N:=nK jb0 [] oN ([3,5,7,8,10,12,13,14],[3,5,10]) [] ([],[]) λ_ _ _=>by delta j5A j17 j5m j6a;refine gz j0s λ_ b=>gz j3x λ_ d=>gz j0t λ_ f=> ?_;rewrite [<-b,<-d,<-f];kernel_rfl
def j1W (g:List qW) (i:Int) (t:qB×qE×qL) (r:List qV) (h:List qW) (done:Bool) (b:Int) (rec:qR->Bool->Int->Res) (j:qR->Bool->Res):Res:=bif decide (b<i) then bif inb b (List.length g) then j5A h done t r (nth [] g b) λd f=>j0t (nth [] g b) λk=>bif lim ((List.length d)+1) then rec (d++[k]) f (Z9K (b+1)) else none else none else j h done
def j3F (d:List qW) (f:Int) (t:qB×qE×qL) (r:List qV):(qR×Bool×Int)->(qR×Bool×Int->Res)->((qR->Bool->Res))->Res:=λv rec q=>j1W d f t r v.1 v.2.1 v.2.2 (λb done g=>rec (b,done,g)) q
def jaz (d:List qW) (f:Int) (t:qB×qE×qL) (r:List qV) (n:Nat) (b:List qW) (done:Bool) (g:Int) (h:qR->Bool->Res):Res:=Z1f (j3F d f t r) n (b,done,g) (h)
def j9W:Z1d Unit:=NdL 48 48 [.t 3 (pB 3),.t 5 (pB 5),.R 7 y31 .O,.B 8,.R 12 y31 .S,.I 13,.I 14] [(3,y29,[.S,.S]),(5,y3,[.S])] (λd b=>(d.1,d.2.1,d.2.2.2.2.1)) (λd v=>(v.1,v.2.1,d.2.2.1,d.2.2.2.1,v.2.2,())) (λb v=>((b.1.1,b.1.2),(b.2.1.1,b.2.1.2),())) (λd b=>j3F d.2.2.1 d.2.2.2.1 b.1.2 b.2.1.2) λd b h=>((λg f=>h (.exit 0) [(5,pB 5),(7,v1 y31 g .O),(8,vB f)] [(5,⟨y3,b.2.1.1,b.2.1.2,[.S]⟩)]))
theorem jiO:CN 0 122 Tryz.f312 j9W:=lK jb0 [j6N] (oI 114 0 @jiP oN) ([],[]) [(0,[5,7,8],[5])] ([],[]) λ_ _ _ _ _=>by delta j3F j1W j6N j6a;refine gz j5A λ_ b=>gz j0t λ_ d=> ?_;rewrite [<-b,<-d];kernel_rfl
def j2Z (t:qB×qE×qL) (l:List qW) (r:List qV) (d:qR->Res):Res:=jaz l (nI (List.length l)) t r Z1c [] false 0 λb done=>bif !done then j0t r λf=>bif lim ((List.length b)+1) then d (b++[f]) else none else d b
def jbc:Sig Unit:=sg [.borrow y29 true,.borrow y31 false,.borrow y3 true] [false] [(y29,none),(y31,none),(y3,none)] [] λb f k=>j2Z b.1 b.2.1 b.2.2.1 (λd=>k [w1 y31 d .O] [] [])
theorem jfe:SO 312 jbc:=fK (np:=0) jb0 [j6N,j9W] (oI 122 1 @jiO oN) false Tryz.func312 λ_ _ _ _=>by delta j2Z j9W j6a jaz;refine gz j3F λ_ b=>gz j0t λ_ d=> ?_;rewrite [<-b,<-d];kernel_rfl
def j6n (t:qB×qE×qL) (l:List qW) (r:List qV) (b:qR->Int->Res):Res:=j0r t l λd=>bif !d then b [] 1 else j21 t r λf=>bif !f then b [] 2 else j0s t r λg=>j1s t l g λh=>bif decide (h>=0) then b [] 3 else bif ((nI (List.length l))==60) then b [] 4 else j2Z t l r λi=>b i 0
def jft:Sig Unit:=sg [.borrow y29 true,.borrow y31 false,.borrow y3 true] [false,false] [(y29,none),(y31,none),(y3,none)] [] λb g k=>j6n b.1 b.2.1 b.2.2.1 (λd f=>k [w1 y31 d .O,wI f] [] [])
theorem jkF:SO 288 jft:=fK (np:=0) (Za6 jbX (Za6 j3U (Za6 j65 (Za6 jbY (Za6 jfe Zas))))) [] oN false Tryz.func288 λ_ _ _ _=>by delta j6n j16 j74 j17 j9s jbc;refine gz j0r λ_ b=>gz j21 λ_ d=>gz j0s λ_ f=>gz j1s λ_ g=>gz j2Z λ_ h=> ?_;rewrite [<-b,<-d,<-f,<-g,<-h];kernel_rfl
theorem jfI:FS [(227,j0W),(230,j28),(281,j7w)]:=(Za6 j30 (Za6 j4X (Za6 je1 Zas)))
def j2k (d:List qV) (f:qL) (g:Int) (t:qB×qE×qL) (b:Int) (rec:Int->Res) (h:Unit->Res) (i:Unit->Res):Res:=bif decide (b<g) then bif inb b (List.length f) then bif inb b (List.length d) then j0B t (nth eS f b) λr=>bif inb r (List.length t.2.1) then j3D (nth (eS,0,false,false,0,0,eS) t.2.1 r) (nth (0,0,eS) d b) λj=>bif !j then i () else rec (Z9K (b+1)) else none else none else none else h ()
def j4n (b:List qV) (d:qL) (f:Int) (t:qB×qE×qL):Int->(Int->Res)->((Unit->Res)×(Unit->Res))->Res:=λv rec q=>j2k b d f t v (λg=>rec (g)) q.1 q.2
def jbf (b:List qV) (d:qL) (f:Int) (t:qB×qE×qL) (n:Nat) (g:Int) (h:Unit->Res) (i:Unit->Res):Res:=Z1f (j4n b d f t) n (g) (h,i)
def jaE:Z1d Unit:=NdL 40 40 [.R 1 y3 .S,.t 2 (pB 2),.R 19 y0 .S,.I 20,.I 21] [(2,y29,[.S,.S])] (λb d=>(b.2.2.2.1)) (λb v=>(b.1,b.2.1,b.2.2.1,v,())) (λd v=>((d.1.1,d.1.2),())) (λb d=>j4n b.1 b.2.1 b.2.2.1 d.1.2) λb d f=>((λ_=>f (.exit 0) [] []),(λ_=>f .ret [(4,vB false)] []))
theorem jjB:CN 0 58 Tryz.f313 jaE:=lK jfI [] oN ([],[]) [(0,[],[])] ([4],[]) λ_ _ _ _ _=>by delta j4n j2k j28 j7w;refine gz j0B λ_ b=>gz j3D λ_ d=> ?_;rewrite [<-b,<-d];kernel_rfl
def j4m (t:qB×qE×qL) (b:List qV) (d:Bool->Res):Res:=j0o t λr=>bif !r then d false else bif ((nI (List.length b)) != (nI (List.length t.2.2))) then d false else jbf b t.2.2 (nI (List.length t.2.2)) t Z1c 0 (λ_=>d true) (λ_=>d false)
def jco:Sig Unit:=sg [.look y29 true,.look y3 false] [false] [(y29,none),(y3,none)] [] λb f k=>j4m b.1 b.2.1 (λd=>k [wB d] [] [])
theorem jfZ:SO 313 jco:=fK (np:=0) jfI [jaE] (oI 58 0 @jjB oN) false Tryz.func313 λ_ _ _ _=>by delta j4m j0W jaE jbf;refine gz j0o λ_ b=>gz j4n λ_ d=> ?_;rewrite [<-b,<-d];kernel_rfl
def j1u (f:Int) (h:List qW) (g:Int) (d:List qW) (b:Int) (rec:qR->Int->Res) (i:qR->Res):Res:=bif decide (b<g) then bif inb b (List.length h) then bif (b != f) then j0t (nth [] h b) λr=>bif lim ((List.length d)+1) then rec (d++[r]) (Z9K (b+1)) else none else rec d (Z9K (b+1)) else none else i d
def j5V (b:Int) (h:List qW) (f:Int):(qR×Int)->(qR×Int->Res)->((qR->Res))->Res:=λv rec q=>j1u b h f v.1 v.2 (λd g=>rec (d,g)) q
def jaW (b:Int) (i:List qW) (f:Int) (n:Nat) (d:List qW) (g:Int) (h:qR->Res):Res:=Z1f (j5V b i f) n (d,g) (h)
def ja5:Z1d Unit:=NdL 26 26 [.I 1,.R 5 y31 .O,.R 9 y31 .S,.I 10,.I 11] [] (λb f=>(b.2.1,b.2.2.2.2.1)) (λb v=>(b.1,v.1,b.2.2.1,b.2.2.2.1,v.2,())) (λf v=>()) (λb f=>j5V b.1 b.2.2.1 b.2.2.2.1) λb f g=>((λd=>g (.exit 0) [(5,v1 y31 d .O)] []))
theorem jfE:CN 0 58 Tryz.f314 ja5:=lK (Za6 j3V Zas) [] oN ([],[]) [(0,[5],[])] ([],[]) λ_ _ _ _ _=>by kernel_rfl
def j1t (l:List qW) (b:Int) (f:qR->Res):Res:=jaW b l (nI (List.length l)) Z1c [] 0 λd=>f d
def j7N:Sig Unit:=sg [.borrow y31 false,.borrow tI false] [false] [(y31,none),(tI,none)] [] λb f k=>j1t b.1 b.2.1 (λd=>k [w1 y31 d .O] [] [])
theorem jbs:SO 314 j7N:=fK (np:=0) (Za6 j3V Zas) [ja5] (oI 58 0 @jfE oN) false Tryz.func314 λ_ _ _ _=>by kernel_rfl
def j6o (t:qB×qE×qL) (l:List qW) (d:List qV) (r:List qV) (b:qR->Int->Res):Res:=j0r t l λh=>bif !h then b [] 1 else j21 t r λi=>bif !i then b [] 2 else j1s t l d λf=>j4m t d λj=>bif !j then b [] 5 else bif decide (f<0) then b [] 5 else j1t l f λg=>j0s t r λk=>j1s t g k λm=>bif decide (m>=0) then b [] 3 else j2Z t g r λn=>b n 0
def jfu:Sig Unit:=sg [.borrow y29 true,.borrow y31 false,.borrow y3 false,.borrow y3 true] [false,false] [(y29,none),(y31,none),(y3,none),(y3,none)] [] λb g k=>j6o b.1 b.2.1 b.2.2.1 b.2.2.2.1 (λd f=>k [w1 y31 d .O,wI f] [] [])
theorem jkG:SO 289 jfu:=fK (np:=0) (Za6 jbX (Za6 j3U (Za6 j65 (Za6 jbY (Za6 jfe (Za6 jfZ (Za6 jbs Zas))))))) [] oN false Tryz.func289 λ_ _ _ _=>by delta j6o j16 j74 j9s jco j7N j17 jbc;refine gz j0r λ_ b=>gz j21 λ_ d=>gz j1s λ_ f=>gz j4m λ_ g=>gz j1t λ_ h=>gz j0s λ_ i=>gz j2Z λ_ j=> ?_;rewrite [<-b,<-d,<-f,<-g,<-h,<-i,<-j];kernel_rfl
def j6m (t:qB×qE×qL) (l:List qW) (b:List qV) (d:qR->Int->Res):Res:=j0r t l λr=>bif !r then d [] 1 else j1s t l b λf=>j4m t b λg=>bif !g then d [] 5 else bif decide (f<0) then d [] 5 else j1t l f λh=>d h 0
def jfs:Sig Unit:=sg [.borrow y29 true,.borrow y31 false,.borrow y3 false] [false,false] [(y29,none),(y31,none),(y3,none)] [] λb g k=>j6m b.1 b.2.1 b.2.2.1 (λd f=>k [w1 y31 d .O,wI f] [] [])
theorem jkE:SO 290 jfs:=fK (np:=0) (Za6 jbX (Za6 j3U (Za6 jfZ (Za6 jbs Zas)))) [] oN false Tryz.func290 λ_ _ _ _=>by delta j6m j16 j9s jco j7N;refine gz j0r λ_ b=>gz j1s λ_ d=>gz j4m λ_ f=>gz j1t λ_ g=> ?_;rewrite [<-b,<-d,<-f,<-g];kernel_rfl
theorem j4V:FS [(172,j16),(210,j3u),(230,j28),(287,j4h)]:=(Za6 j3U (Za6 jbW (Za6 j4X (Za6 jcK Zas))))
def j4q (l:List qW) (t:qB×qE×qL) (d:qG) (b:Bool->Res):Res:=j0r t l λr=>bif !r then b true else j20 d λf=>bif !f then b true else bif sNe d.2.1 t.1 then b true else b (d.1==1)
def j1X:Z1d Unit:=Nd 106 106 [.R 1 y31 .S,.t 3 (pB 3),.t 5 (pB 5)] [(3,y29,[.S,.S]),(5,y13,[.S,.S])] λf b g=>j4q f.1 b.1.2 b.2.1.2 (λd=>g .normal [(1,v1 y31 f.1 .S),(3,pB 3),(5,pB 5),(37,vB d)] [(3,⟨y29,b.1.1,b.1.2,[.S,.S]⟩),(5,⟨y13,b.2.1.1,b.2.1.2,[.S,.S]⟩)])
theorem jhM:CN 0 12 Tryz.f291 j1X:=nK j4V [] oN ([1,3,5,37],[3,5]) [] ([],[]) λ_ _ _=>by delta j4q j16 j3u;refine gz j0r λ_ b=>gz j20 λ_ d=> ?_;rewrite [<-b,<-d];kernel_rfl
def j0w (g:Int) (f:List qV) (h:Int) (d:qG) (b:Int) (x:List qV) (rec:Int->qW->Res) (i:qW->Res):Res:=bif decide (b<h) then bif inb b (List.length f) then bif (d.1 != 4) then bif lim ((List.length x)+1) then rec (Z9K (b+1)) (x++[nth (0,0,eS) f b]) else none else bif (b != g) then bif lim ((List.length x)+1) then rec (Z9K (b+1)) (x++[nth (0,0,eS) f b]) else none else rec (Z9K (b+1)) x else none else i x
def j2G (b:Int) (f:List qV) (g:Int) (d:qG):(Int×qW)->(Int×qW->Res)->((qW->Res))->Res:=λv rec q=>j0w b f g d v.1 v.2 (λh x=>rec (h,x)) q
def j6I (b:Int) (f:List qV) (g:Int) (d:qG) (n:Nat) (h:Int) (x:List qV) (i:qW->Res):Res:=Z1f (j2G b f g d) n (h,x) (i)
def j3L:Z1d Unit:=NdL 106 106 [.t 5 (pB 5),.R 10 y31 .O,.I 11,.t 14 (pB 14),.R 54 y31 .S,.I 55,.I 56,.R 62 y3 .S,.I 63,.I 64] [(5,y13,[.S,.S]),(14,y3,[.O])] (λb d=>(b.2.2.2.2.2.2.2.1,d.2.1.2)) (λb v=>(b.1,b.2.1,b.2.2.1,b.2.2.2.1,b.2.2.2.2.1,b.2.2.2.2.2.1,b.2.2.2.2.2.2.1,v.1,())) (λd v=>((d.1.1,d.1.2),(d.2.1.1,v.2),())) (λb d=>j2G b.2.1 b.2.2.2.2.2.1 b.2.2.2.2.2.2.1 d.1.2) λb d f=>((λg=>f (.exit 2) [(5,pB 5),(10,v1 y31 b.1 .O),(11,vI b.2.1),(14,pB 14),(54,v1 y31 b.2.2.1 .S),(55,vI b.2.2.2.1),(56,vI b.2.2.2.2.1)] [(5,⟨y13,d.1.1,d.1.2,[.S,.S]⟩),(14,⟨y3,d.2.1.1,g,[.O]⟩)]))
theorem jhK:CN 0 1042842 Tryz.f291 j3L:=lK j4V [j1X] oN ([],[]) [(2,[5,10,11,14,54,55,56],[5,14])] ([],[]) λ_ _ _ _ _=>by kernel_rfl
def j6J (b:Bool) (d:qG) (x:List qV) (f:qW->Res):Res:=bif b then bif inb 0 (List.length d.2.2.1) then bif lim ((List.length x)+1) then f (x++[(nth (eS,0,false,false,0,0,eS) d.2.2.1 0).2.2.2.2]) else none else none else f x
def j61:Z1d Unit:=Nd 106 106 [.t 5 (pB 5),.R 10 y31 .O,.I 11,.t 14 (pB 14),.R 54 y31 .S,.I 55,.I 56,.B 86] [(5,y13,[.S,.S]),(14,y3,[.O])] λb d f=>j6J b.2.2.2.2.2.1 d.1.2 d.2.1.2 (λg=>f .normal [(5,pB 5),(10,v1 y31 b.1 .O),(11,vI b.2.1),(14,pB 14),(54,v1 y31 b.2.2.1 .S),(55,vI b.2.2.2.1),(56,vI b.2.2.2.2.1)] [(5,⟨y13,d.1.1,d.1.2,[.S,.S]⟩),(14,⟨y3,d.2.1.1,g,[.O]⟩)])
theorem jhN:CN 0 1042845 Tryz.f291 j61:=nK j4V [j1X,j3L] oN ([5,10,11,14,54,55,56],[5,14]) [] ([],[]) λ_ _ _=>by kernel_rfl
def j1A (h:Int) (g:List qW) (i:Int) (d:qG) (f:List qW) (b:Int) (rec:qR->Int->Res) (j:qR->Res):Res:=bif decide (b<i) then bif inb b (List.length g) then j6I h (nth [] g b) (nI (List.length (nth [] g b))) d Z1c 0 [] λx=>j6J (d.1==3) d x λk=>bif (d.1 != 2) then bif lim ((List.length f)+1) then rec (f++[k]) (Z9K (b+1)) else none else rec f (Z9K (b+1)) else none else j f
def j2H (b:Int) (g:List qW) (h:Int) (d:qG):(qR×Int)->(qR×Int->Res)->((qR->Res))->Res:=λv rec q=>j1A b g h d v.1 v.2 (λf i=>rec (f,i)) q
def j9D (b:Int) (g:List qW) (h:Int) (d:qG) (n:Nat) (f:List qW) (i:Int) (j:qR->Res):Res:=Z1f (j2H b g h d) n (f,i) (j)
def j8R:Z1d Unit:=NdL 106 106 [.t 5 (pB 5),.R 10 y31 .O,.I 11,.R 54 y31 .S,.I 55,.I 56] [(5,y13,[.S,.S])] (λb d=>(b.1,b.2.2.2.2.1)) (λb v=>(v.1,b.2.1,b.2.2.1,b.2.2.2.1,v.2,())) (λd v=>((d.1.1,d.1.2),())) (λb d=>j2H b.2.1 b.2.2.1 b.2.2.2.1 d.1.2) λb d g=>((λf=>g (.exit 0) [(10,v1 y31 f .O)] []))
theorem jhL:CN 0 1018 Tryz.f291 j8R:=lK j4V [j1X,j3L,j61] (oI 922 1 @jhK (oI 925 2 @jhN oN)) ([],[]) [(0,[10],[])] ([],[]) λ_ _ _ _ _=>by delta j2H j1A j3L j61 j6I;refine gz j2G λ_ b=>gz j6J λ_ d=> ?_;rewrite [<-b,<-d];kernel_rfl
def j5v (t:qB×qE×qL) (l:List qW) (d:qG) (b:qR->Int->Res):Res:=j4q l t d λi=>bif i then b [] 1 else j1G [t] d λr g=>bif (g != 0) then b [] g else j0B t d.2.2.2.2.1 λh=>j9D h l (nI (List.length l)) d Z1c [] 0 λf=>b f 0
def jei:Sig Unit:=sg [.borrow y29 true,.borrow y31 false,.borrow y13 true] [false,false] [(y29,none),(y31,none),(y13,none)] [] λb g k=>j5v b.1 b.2.1 b.2.2.1 (λd f=>k [w1 y31 d .O,wI f] [] [])
theorem jjc:SO 291 jei:=fK (np:=0) j4V [j1X,j3L,j61,j8R] (oI 12 0 @jhM (oI 1018 3 @jhL oN)) false Tryz.func291 λ_ _ _ _=>by delta j5v j1X j4h j28 j8R j9D;refine gz j4q λ_ b=>gz j1G λ_ d=>gz j0B λ_ f=>gz j2H λ_ g=> ?_;rewrite [<-b,<-d,<-f,<-g];kernel_rfl
def j0O (l:List qV) (b:qW->Res):Res:=bif lim (0+(List.length l)) then b l else none
def j6B:Sig Unit:=sg [.borrow y3 false] [false] [(y3,none)] [] λd f k=>j0O d.1 (λb=>k [w1 y3 b .O] [] [])
theorem j6t:SO 178 j6B:=fK (np:=0) Zas [] oN false Tryz.func178 λ_ _ _ _=>by kernel_rfl
def jaN (c:qB×Int×Bool×Bool×Int×Int×qB) (d:Int×Int×qB) (b:Bool->Res):Res:=j0U d λr=>bif r then bif (d.1==c.2.1) then b true else bif (d.1==0) then b (!c.2.2.1) else b false else b false
def jl6:Sig Unit:=sg [.look y7 true,.look y2 true] [false] [(y7,none),(y2,none)] [] λb f k=>jaN b.1 b.2.1 (λd=>k [wB d] [] [])
theorem jf9:SO 315 jl6:=fK (np:=0) (Za6 j6O Zas) [] oN false Tryz.func315 λ_ _ _ _=>by kernel_rfl
def j4e (d:List qV) (f:Int) (t:qB×qE×qL) (b:Int) (rec:Int->Res) (g:Unit->Res) (h:Unit->Res):Res:=bif decide (b<f) then bif inb b (List.length d) then bif inb b (List.length t.2.1) then jaN (nth (eS,0,false,false,0,0,eS) t.2.1 b) (nth (0,0,eS) d b) λr=>bif !r then h () else rec (Z9K (b+1)) else none else none else g ()
def j9f (b:List qV) (d:Int) (t:qB×qE×qL):Int->(Int->Res)->((Unit->Res)×(Unit->Res))->Res:=λv rec q=>j4e b d t v (λf=>rec (f)) q.1 q.2
def jfi (b:List qV) (d:Int) (t:qB×qE×qL) (n:Nat) (f:Int) (g:Unit->Res) (h:Unit->Res):Res:=Z1f (j9f b d t) n (f) (g,h)
def jew:Z1d Unit:=NdL 31 31 [.t 2 (pB 2),.R 15 y3 .S,.I 16,.I 17] [(2,y29,[.S,.S])] (λb d=>(b.2.2.1)) (λb v=>(b.1,b.2.1,v,())) (λd v=>((d.1.1,d.1.2),())) (λb d=>j9f b.1 b.2.1 d.1.2) λb d f=>((λ_=>f (.exit 0) [] []),(λ_=>f .ret [(4,vB false)] []))
theorem jjx:CN 0 58 Tryz.f293 jew:=lK (Za6 jf9 Zas) [] oN ([],[]) [(0,[],[])] ([4],[]) λ_ _ _ _ _=>by kernel_rfl
def j2T (t:qB×qE×qL) (r:List qV) (b:Bool->Res):Res:=bif ((nI (List.length r)) != (nI (List.length t.2.1))) then b false else jfi r (nI (List.length r)) t Z1c 0 (λ_=>b true) (λ_=>b false)
def j5h:Sig Unit:=sg [.look y29 true,.look y3 true] [false] [(y29,none),(y3,none)] [] λb f k=>j2T b.1 b.2.1 (λd=>k [wB d] [] [])
theorem jbQ:SO 293 j5h:=fK (np:=0) (Za6 jf9 Zas) [jew] (oI 58 0 @jjx oN) false Tryz.func293 λ_ _ _ _=>by kernel_rfl
def j4d (f:qL) (g:Int) (t:qB×qE×qL) (r:List qV) (d:List qV) (b:Int) (rec:qW->Int->Res) (i:qW->Res):Res:=bif decide (b<g) then bif inb b (List.length f) then j0f t (nth eS f b) λh=>bif inb h (List.length r) then bif lim ((List.length d)+1) then rec (d++[nth (0,0,eS) r h]) (Z9K (b+1)) else none else none else none else i d
def j9e (d:qL) (f:Int) (t:qB×qE×qL) (r:List qV):(qW×Int)->(qW×Int->Res)->((qW->Res))->Res:=λv rec q=>j4d d f t r v.1 v.2 (λb g=>rec (b,g)) q
def jfh (d:qL) (f:Int) (t:qB×qE×qL) (r:List qV) (n:Nat) (b:List qV) (g:Int) (h:qW->Res):Res:=Z1f (j9e d f t r) n (b,g) (h)
def jev:Z1d Unit:=NdL 28 28 [.t 2 (pB 2),.t 3 (pB 3),.R 5 y3 .O,.R 10 y0 .S,.I 11,.I 12] [(2,y29,[.S,.S]),(3,y3,[.S])] (λb d=>(b.1,b.2.2.2.1)) (λb v=>(v.1,b.2.1,b.2.2.1,v.2,())) (λd v=>((d.1.1,d.1.2),(d.2.1.1,d.2.1.2),())) (λb d=>j9e b.2.1 b.2.2.1 d.1.2 d.2.1.2) λb d g=>((λf=>g (.exit 0) [(5,v1 y3 f .O)] []))
theorem jjw:CN 0 58 Tryz.f238 jev:=lK (Za6 j3a Zas) [] oN ([],[]) [(0,[5],[])] ([],[]) λ_ _ _ _ _=>by kernel_rfl
def j0A (t:qB×qE×qL) (r:List qV) (d:qW->Res):Res:=jfh t.2.2 (nI (List.length t.2.2)) t r Z1c [] 0 λb=>d b
def j1p:Sig Unit:=sg [.borrow y29 true,.borrow y3 true] [false] [(y29,none),(y3,none)] [] λb f k=>j0A b.1 b.2.1 (λd=>k [w1 y3 d .O] [] [])
theorem j6P:SO 238 j1p:=fK (np:=0) (Za6 j3a Zas) [jev] (oI 58 0 @jjw oN) false Tryz.func238 λ_ _ _ _=>by kernel_rfl
def j2v (a:List qV) (b:List qV) (i:Int) (rec:Int->Res) (d:Unit->Res) (f:Bool->Res):Res:=bif decide (i<(nI (List.length a))) then bif decide (i<(nI (List.length b))) then bif inb i (List.length a) then bif inb i (List.length b) then bif !(((nth (0,0,eS) a i).1==(nth (0,0,eS) b i).1)&&(((nth (0,0,eS) a i).2.1==(nth (0,0,eS) b i).2.1)&&(sEq (nth (0,0,eS) a i).2.2 (nth (0,0,eS) b i).2.2))) then bif inb i (List.length a) then bif inb i (List.length b) then j6V (nth (0,0,eS) a i) (nth (0,0,eS) b i) λr=>f r else none else none else rec (Z9K (i+1)) else none else none else d () else d ()
def j7I (a:List qV) (b:List qV):Int->(Int->Res)->((Unit->Res)×(Bool->Res))->Res:=λv rec q=>j2v a b v (λi=>rec (i)) q.1 q.2
def jcS (a:List qV) (b:List qV) (n:Nat) (i:Int) (d:Unit->Res) (f:Bool->Res):Res:=Z1f (j7I a b) n (i) (d,f)
def jcu:Z1d Unit:=NdL 41 41 [.R 0 y3 .S,.R 1 y3 .S,.I 5] [] (λb d=>(b.2.2.1)) (λb v=>(b.1,b.2.1,v,())) (λd v=>()) (λb d=>j7I b.1 b.2.1) λb d f=>((λ_=>f (.exit 0) [(0,v1 y3 b.1 .S),(1,v1 y3 b.2.1 .S)] []),(λg=>f .ret [(4,vB g)] []))
theorem jhv:CN 0 26 Tryz.f294 jcu:=lK (Za6 jdQ Zas) [] oN ([],[]) [(0,[0,1],[])] ([4],[]) λ_ _ _ _ _=>by kernel_rfl
def j3d (a:List qV) (b:List qV) (d:Bool->Res):Res:=jcS a b Z1c 0 (λ_=>d (decide ((nI (List.length a))<(nI (List.length b))))) (λt=>d t)
def j5d:Sig Unit:=sg [.look y3 false,.look y3 false] [false] [(y3,none),(y3,none)] [] λb f k=>j3d b.1 b.2.1 (λd=>k [wB d] [] [])
theorem jdP:SO 294 j5d:=fK (np:=0) (Za6 jdQ Zas) [jcu] (oI 26 0 @jhv oN) false Tryz.func294 λ_ _ _ _=>by kernel_rfl
theorem jeZ:FS [(238,j1p),(268,j35),(293,j5h),(294,j5d)]:=(Za6 j6P (Za6 j4W (Za6 jbQ (Za6 jdP Zas))))
def j1S (l:List qW) (d:List qW) (f:Int) (t:qB×qE×qL) (b:Int) (rec:Int->Res) (h:Unit->Res) (g:Unit->Res):Res:=bif decide (b<f) then bif inb b (List.length d) then j2T t (nth [] d b) λr=>bif !r then g () else bif decide (b>0) then bif inb (Z9K (b-1)) (List.length l) then j0A t (nth [] l (Z9K (b-1))) λi=>j0A t (nth [] d b) λj=>j3d i j λk=>bif !k then g () else rec (Z9K (b+1)) else none else rec (Z9K (b+1)) else none else h ()
def j3e (l:List qW) (b:List qW) (d:Int) (t:qB×qE×qL):Int->(Int->Res)->((Unit->Res)×(Unit->Res))->Res:=λv rec q=>j1S l b d t v (λf=>rec (f)) q.1 q.2
def jac (l:List qW) (b:List qW) (d:Int) (t:qB×qE×qL) (n:Nat) (f:Int) (g:Unit->Res) (h:Unit->Res):Res:=Z1f (j3e l b d t) n (f) (g,h)
def j9L:Z1d Unit:=NdL 45 45 [.R 1 y31 .S,.t 2 (pB 2),.R 15 y31 .S,.I 16,.I 17] [(2,y29,[.S,.S])] (λb d=>(b.2.2.2.1)) (λb v=>(b.1,b.2.1,b.2.2.1,v,())) (λd v=>((d.1.1,d.1.2),())) (λb d=>j3e b.1 b.2.1 b.2.2.1 d.1.2) λb d f=>((λ_=>f (.exit 0) [] []),(λ_=>f .ret [(4,vB false)] []))
theorem jis:CN 0 58 Tryz.f251 j9L:=lK jeZ [] oN ([],[]) [(0,[],[])] ([4],[]) λ_ _ _ _ _=>by delta j3e j1S j5h j1p j5d;refine gz j2T λ_ b=>gz j0A λ_ d=>gz j3d λ_ f=> ?_;rewrite [<-b,<-d,<-f];kernel_rfl
def j0E (t:qB×qE×qL) (l:List qW) (b:Bool->Res):Res:=j0C t λr=>bif !r then b false else bif decide ((nI (List.length l))>60) then b false else jac l l (nI (List.length l)) t Z1c 0 (λ_=>b true) (λ_=>b false)
def j1F:Sig Unit:=sg [.look y29 true,.look y31 false] [false] [(y29,none),(y31,none)] [] λb f k=>j0E b.1 b.2.1 (λd=>k [wB d] [] [])
theorem j64:SO 251 j1F:=fK (np:=0) jeZ [j9L] (oI 58 0 @jis oN) false Tryz.func251 λ_ _ _ _=>by delta j0E j35 j9L jac;refine gz j0C λ_ b=>gz j3e λ_ d=> ?_;rewrite [<-b,<-d];kernel_rfl
def j26 (f:List qW) (h:Int) (b:List qW) (d:Int) (rec:qR->Int->Res) (g:qR->Res):Res:=bif decide (d<h) then bif inb d (List.length f) then j0O (nth [] f d) λr=>bif lim ((List.length b)+1) then rec (b++[r]) (Z9K (d+1)) else none else none else g b
def j6W (d:List qW) (f:Int):(qR×Int)->(qR×Int->Res)->((qR->Res))->Res:=λv rec q=>j26 d f v.1 v.2 (λb g=>rec (b,g)) q
def jc5 (f:List qW) (g:Int) (n:Nat) (b:List qW) (h:Int) (d:qR->Res):Res:=Z1f (j6W f g) n (b,h) (d)
def jbu:Z1d Unit:=NdL 21 21 [.R 3 y31 .O,.R 6 y31 .S,.I 7,.I 8] [] (λb f=>(b.1,b.2.2.2.1)) (λb v=>(v.1,b.2.1,b.2.2.1,v.2,())) (λf v=>()) (λb f=>j6W b.2.1 b.2.2.1) λb f g=>((λd=>g (.exit 0) [(3,v1 y31 d .O)] []))
theorem jgO:CN 0 58 Tryz.f232 jbu:=lK (Za6 j6t Zas) [] oN ([],[]) [(0,[3],[])] ([],[]) λ_ _ _ _ _=>by kernel_rfl
def j0m (l:List qW) (d:qR->Res):Res:=jc5 l (nI (List.length l)) Z1c [] 0 λb=>d b
def j0I:Sig Unit:=sg [.borrow y31 false] [false] [(y31,none)] [] λd f k=>j0m d.1 (λb=>k [w1 y31 b .O] [] [])
theorem j41:SO 232 j0I:=fK (np:=0) (Za6 j6t Zas) [jbu] (oI 58 0 @jgO oN) false Tryz.func232 λ_ _ _ _=>by kernel_rfl
theorem j7g:FS [(211,j3s),(232,j0I),(251,j1F),(284,j0D),(317,j5f),(324,ja1)]:=(Za6 jbN (Za6 j41 (Za6 j64 (Za6 j3a (Za6 jdS (Za6 jfC Zas))))))
def j4a (l:List qW) (t:qB×qE×qL) (d:qG) (b:Bool->Res):Res:=j0E t l λr=>bif !r then b true else j1Y d λf=>bif !f then b true else bif sNe d.2.1 t.1 then b true else b (d.1==1)
def j3J:Z1d Unit:=Nd 98 98 [.R 1 y31 .S,.t 3 (pB 3),.t 5 (pB 5)] [(3,y29,[.S,.S]),(5,y13,[.S,.S])] λf b g=>j4a f.1 b.1.2 b.2.1.2 (λd=>g .normal [(1,v1 y31 f.1 .S),(3,pB 3),(5,pB 5),(33,vB d)] [(3,⟨y29,b.1.1,b.1.2,[.S,.S]⟩),(5,⟨y13,b.2.1.1,b.2.1.2,[.S,.S]⟩)])
theorem jhy:CN 0 12 Tryz.f298 j3J:=nK j7g [] oN ([1,3,5,33],[3,5]) [] ([],[]) λ_ _ _=>by delta j4a j1F j3s;refine gz j0E λ_ b=>gz j1Y λ_ d=> ?_;rewrite [<-b,<-d];kernel_rfl
def j2w (g:Int) (d:qG) (f:List qW) (b:Int) (rec:qR->Int->Res) (h:qR->Res):Res:=bif decide (b<g) then bif inb b (List.length f) then bif inb 0 (List.length d.2.2.1) then bif lim ((List.length (nth [] f b))+1) then bif inb b (List.length (upd f b ((nth [] f b)++[(nth (eS,0,false,false,0,0,eS) d.2.2.1 0).2.2.2.2]))) then bif (Z9o (Int.toNat b) (Int.toNat b)&&true) then rec (upd f b ((nth [] f b)++[(nth (eS,0,false,false,0,0,eS) d.2.2.1 0).2.2.2.2])) (Z9K (b+1)) else none else none else none else none else none else h f
def j4B (f:Int) (d:qG):(qR×Int)->(qR×Int->Res)->((qR->Res))->Res:=λv rec q=>j2w f d v.1 v.2 (λb g=>rec (b,g)) q
def j6v (f:Int) (d:qG) (n:Nat) (b:List qW) (g:Int) (h:qR->Res):Res:=Z1f (j4B f d) n (b,g) (h)
def j5Y:Z1d Unit:=NdL 98 98 [.t 5 (pB 5),.R 9 y31 .O,.I 51,.I 52] [(5,y13,[.S,.S])] (λb d=>(b.1,b.2.2.1)) (λb v=>(v.1,b.2.1,v.2,())) (λd v=>((d.1.1,d.1.2),())) (λb d=>j4B b.2.1 d.1.2) λb d g=>((λf=>g (.exit 1) [(9,v1 y31 f .O)] []))
theorem jhw:CN 0 16058 Tryz.f298 j5Y:=lK j7g [j3J] oN ([],[]) [(1,[9],[])] ([],[]) λ_ _ _ _ _=>by kernel_rfl
def j2x (f:Int) (g:Int) (d:List qW) (b:Int) (rec:qR->Int->Res) (h:qR->Res):Res:=bif decide (b<g) then bif inb b (List.length d) then j7O (nth [] d b) f (Z9K (f+1)) λr=>bif inb b (List.length (upd d b r)) then bif (Z9o (Int.toNat b) (Int.toNat b)&&true) then rec (upd d b r) (Z9K (b+1)) else none else none else none else h d
def j4C (b:Int) (f:Int):(qR×Int)->(qR×Int->Res)->((qR->Res))->Res:=λv rec q=>j2x b f v.1 v.2 (λd g=>rec (d,g)) q
def j6w (b:Int) (f:Int) (n:Nat) (d:List qW) (g:Int) (h:qR->Res):Res:=Z1f (j4C b f) n (d,g) (h)
def j8L:Z1d Unit:=NdL 98 98 [.R 9 y31 .O,.I 11,.I 79,.I 80] [] (λb f=>(b.1,b.2.2.2.1)) (λb v=>(v.1,b.2.1,b.2.2.1,v.2,())) (λf v=>()) (λb f=>j4C b.2.1 b.2.2.1) λb f g=>((λd=>g (.exit 3) [(9,v1 y31 d .O)] []))
theorem jhx:CN 0 128502 Tryz.f298 j8L:=lK j7g [j3J,j5Y] oN ([],[]) [(3,[9],[])] ([],[]) λ_ _ _ _ _=>by kernel_rfl
def j50 (t:qB×qE×qL) (l:List qW) (d:qG) (b:qR->Int->Res):Res:=j4a l t d λj=>bif j then b [] 1 else j27 [t] d λr=>bif (r != 0) then b [] r else j0m l λg=>bif (d.1==2) then b [] 0 else bif (d.1==3) then j6v (nI (List.length g)) d Z1c g 0 λh=>b h 0 else bif (d.1==4) then j0f t d.2.2.2.2.1 λi=>j6w i (nI (List.length g)) Z1c g 0 λf=>b f 0 else b g 0
def jan:Sig Unit:=sg [.borrow y29 true,.borrow y31 false,.borrow y13 true] [false,false] [(y29,none),(y31,none),(y13,none)] [] λb g k=>j50 b.1 b.2.1 b.2.2.1 (λd f=>k [w1 y31 d .O,wI f] [] [])
theorem jj5:SO 298 jan:=fK (np:=0) j7g [j3J,j5Y,j8L] (oI 12 0 @jhy (oI 16058 1 @jhw (oI 128502 2 @jhx oN))) false Tryz.func298 λ_ _ _ _=>by delta j50 j3J j5f j0I j5Y j0D j8L j6v j6w;refine gz j4a λ_ b=>gz j27 λ_ d=>gz j0m λ_ f=>gz j4B λ_ g=>gz j0f λ_ h=>gz j4C λ_ i=> ?_;rewrite [<-b,<-d,<-f,<-g,<-h,<-i];kernel_rfl
def jaM (r:List qV) (g:qB×qE×qL) (h:List qV) (b:Bool->Res):Res:=j0A g r λd=>j1c d h λf=>b f
def jl5:Sig Unit:=sg [.look y3 true,.rptr y29,.rptr y3] [false] [(y3,none),(y29,none),(y3,none)] [] λb f k=>jaM b.1 b.2.1 b.2.2.1 (λd=>k [wB d] [] [])
theorem jf8:SO 237 jl5:=fK (np:=0) (Za6 jaQ (Za6 j6P Zas)) [] oN false Tryz.func237 λ_ _ _ _=>by delta jaM j1p j4g;refine gz j0A λ_ b=>gz j1c λ_ d=> ?_;rewrite [<-b,<-d];kernel_rfl
def j0K (s:List qW) (f:qT×List qV) (h:Int) (b:Int) (rec:Int->Res) (d:Unit->Res) (g:Int->Res):Res:=bif decide (b<h) then bif inb b (List.length s) then jaM (nth [] s b) f.1 f.2 λr=>bif r then g b else rec (Z9K (b+1)) else none else d ()
def j2V (s:List qW) (f:qT×List qV) (b:Int):Int->(Int->Res)->((Unit->Res)×(Int->Res))->Res:=λv rec q=>j0K s f b v (λd=>rec (d)) q.1 q.2
def j7E (s:List qW) (f:qT×List qV) (g:Int) (n:Nat) (h:Int) (b:Unit->Res) (d:Int->Res):Res:=Z1f (j2V s f g) n (h) (b,d)
def j7c:Z1d Unit:=NdL 19 19 [.R 0 y31 .S,.c 1 237 [y29,y3] y36 [.S,.S,.S],.I 7,.I 8] [] (λb d=>(b.2.2.2.1)) (λb v=>(b.1,b.2.1,b.2.2.1,v,())) (λd v=>()) (λb d=>j2V b.1 b.2.1 b.2.2.1) λb d f=>((λ_=>f (.exit 0) [] []),(λg=>f .ret [(4,vI g)] []))
theorem jcf:CN 0 26 Tryz.f236 j7c:=lK (Za6 jf8 Zas) [] oN ([],[]) [(0,[],[])] ([4],[]) λ_ _ _ _ _=>by kernel_rfl
def j5Q (s:List qW) (f:qT×List qV) (b:Int->Res):Res:=j7E s f (nI (List.length s)) Z1c 0 (λ_=>b (-1)) (λt=>b t)
def jdC:Sig Unit:=sg [.look y31 false,.rclos 237 [y29,y3]] [false] [(y31,none),(y36,none)] [] λb f k=>j5Q b.1 b.2.1 (λd=>k [wI d] [] [])
theorem jdq:SO 236 jdC:=fK (np:=0) (Za6 jf8 Zas) [j7c] (oI 26 0 @jcf oN) false Tryz.func236 λ_ _ _ _=>by kernel_rfl
def j0V (t:qB×qE×qL) (l:List qW) (b:List qV) (d:Int->Res):Res:=j5Q l (t,b) λr=>d r
def j5g:Sig Unit:=sg [.look y29 true,.look y31 false,.look y3 false] [false] [(y29,none),(y31,none),(y3,none)] [] λb f k=>j0V b.1 b.2.1 b.2.2.1 (λd=>k [wI d] [] [])
theorem jbP:SO 177 j5g:=fK (np:=0) (Za6 jdq Zas) [] oN false Tryz.func177 λ_ _ _ _=>by kernel_rfl
theorem jf2:FS [(178,j6B),(232,j0I),(238,j1p),(294,j5d),(325,j6r)]:=(Za6 j6t (Za6 j41 (Za6 j6P (Za6 jdP (Za6 jfD Zas)))))
def j1T (l:List qW) (t:qB×qE×qL) (r:List qV) (b:Int) (rec:Int->Res) (d:Int->Res):Res:=bif decide (b<(nI (List.length l))) then bif inb b (List.length l) then j0A t (nth [] l b) λf=>j0A t r λg=>j3d f g λh=>bif h then rec (Z9K (b+1)) else d b else none else d b
def j3i (l:List qW) (t:qB×qE×qL) (r:List qV):Int->(Int->Res)->((Int->Res))->Res:=λv rec q=>j1T l t r v (λb=>rec (b)) q
def jaf (l:List qW) (t:qB×qE×qL) (r:List qV) (n:Nat) (b:Int) (d:Int->Res):Res:=Z1f (j3i l t r) n (b) (d)
def j9P:Z1d Unit:=NdL 35 35 [.R 1 y31 .S,.t 3 (pB 3),.t 5 (pB 5),.I 7] [(3,y29,[.S,.S]),(5,y3,[.S])] (λd b=>(d.2.1)) (λd v=>(d.1,v,())) (λb v=>((b.1.1,b.1.2),(b.2.1.1,b.2.1.2),())) (λd b=>j3i d.1 b.1.2 b.2.1.2) λd b g=>((λf=>g (.exit 0) [(1,v1 y31 d.1 .S),(5,pB 5),(7,vI f)] [(5,⟨y3,b.2.1.1,b.2.1.2,[.S]⟩)]))
theorem jiw:CN 0 28 Tryz.f299 j9P:=lK jf2 [] oN ([],[]) [(0,[1,5,7],[5])] ([],[]) λ_ _ _ _ _=>by delta j3i j1T j1p j5d;refine gz j0A λ_ b=>gz j3d λ_ d=> ?_;rewrite [<-b,<-d];kernel_rfl
def j1Z (t:qB×qE×qL) (l:List qW) (r:List qV) (d:qR->Res):Res:=jaf l t r Z1c 0 λb=>j0m l λf=>j0O r λg=>j4F f b [g] λh=>d h
def j8k:Sig Unit:=sg [.borrow y29 true,.borrow y31 false,.borrow y3 true] [false] [(y29,none),(y31,none),(y3,none)] [] λb f k=>j1Z b.1 b.2.1 b.2.2.1 (λd=>k [w1 y31 d .O] [] [])
theorem jf7:SO 299 j8k:=fK (np:=0) jf2 [j9P] (oI 28 0 @jiw oN) false Tryz.func299 λ_ _ _ _=>by delta j1Z j9P j0I j6B j6r jaf;refine gz j3i λ_ b=>gz j0m λ_ d=>gz j0O λ_ f=>gz j4F λ_ g=> ?_;rewrite [<-b,<-d,<-f,<-g];kernel_rfl
def j6g (t:qB×qE×qL) (l:List qW) (r:List qV) (b:qR->Int->Res):Res:=j0E t l λd=>bif !d then b [] 1 else j2T t r λf=>bif !f then b [] 2 else j0A t r λg=>j0V t l g λh=>bif decide (h>=0) then b [] 3 else bif ((nI (List.length l))==60) then b [] 4 else j1Z t l r λi=>b i 0
def jb9:Sig Unit:=sg [.borrow y29 true,.borrow y31 false,.borrow y3 true] [false,false] [(y29,none),(y31,none),(y3,none)] [] λb g k=>j6g b.1 b.2.1 b.2.2.1 (λd f=>k [w1 y31 d .O,wI f] [] [])
theorem jkt:SO 253 jb9:=fK (np:=0) (Za6 jbP (Za6 j6P (Za6 j64 (Za6 jbQ (Za6 jf7 Zas))))) [] oN false Tryz.func253 λ_ _ _ _=>by delta j6g j1F j5h j1p j5g j8k;refine gz j0E λ_ b=>gz j2T λ_ d=>gz j0A λ_ f=>gz j0V λ_ g=>gz j1Z λ_ h=> ?_;rewrite [<-b,<-d,<-f,<-g,<-h];kernel_rfl
theorem jfG:FS [(268,j35),(273,j71),(284,j0D)]:=(Za6 j4W (Za6 j6O (Za6 j3a Zas)))
def j2e (d:List qV) (f:qL) (g:Int) (t:qB×qE×qL) (b:Int) (rec:Int->Res) (j:Unit->Res) (h:Unit->Res):Res:=bif decide (b<g) then bif inb b (List.length f) then bif inb b (List.length d) then j0U (nth (0,0,eS) d b) λr=>bif !r then h () else bif inb b (List.length d) then j0f t (nth eS f b) λi=>bif inb i (List.length t.2.1) then bif ((nth (0,0,eS) d b).1 != (nth (eS,0,false,false,0,0,eS) t.2.1 i).2.1) then h () else rec (Z9K (b+1)) else none else none else none else none else j ()
def j49 (b:List qV) (d:qL) (f:Int) (t:qB×qE×qL):Int->(Int->Res)->((Unit->Res)×(Unit->Res))->Res:=λv rec q=>j2e b d f t v (λg=>rec (g)) q.1 q.2
def jb4 (b:List qV) (d:qL) (f:Int) (t:qB×qE×qL) (n:Nat) (g:Int) (h:Unit->Res) (i:Unit->Res):Res:=Z1f (j49 b d f t) n (g) (h,i)
def jaB:Z1d Unit:=NdL 49 49 [.R 1 y3 .S,.t 2 (pB 2),.R 19 y0 .S,.I 20,.I 21] [(2,y29,[.S,.S])] (λb d=>(b.2.2.2.1)) (λb v=>(b.1,b.2.1,b.2.2.1,v,())) (λd v=>((d.1.1,d.1.2),())) (λb d=>j49 b.1 b.2.1 b.2.2.1 d.1.2) λb d f=>((λ_=>f (.exit 0) [] []),(λ_=>f .ret [(4,vB false)] []))
theorem jju:CN 0 58 Tryz.f300 jaB:=lK jfG [] oN ([],[]) [(0,[],[])] ([4],[]) λ_ _ _ _ _=>by delta j49 j2e j71 j0D;refine gz j0U λ_ b=>gz j0f λ_ d=> ?_;rewrite [<-b,<-d];kernel_rfl
def j48 (t:qB×qE×qL) (b:List qV) (d:Bool->Res):Res:=j0C t λr=>bif !r then d false else bif ((nI (List.length b)) != (nI (List.length t.2.2))) then d false else jb4 b t.2.2 (nI (List.length t.2.2)) t Z1c 0 (λ_=>d true) (λ_=>d false)
def j9r:Sig Unit:=sg [.look y29 true,.look y3 false] [false] [(y29,none),(y3,none)] [] λb f k=>j48 b.1 b.2.1 (λd=>k [wB d] [] [])
theorem jfO:SO 300 j9r:=fK (np:=0) jfG [jaB] (oI 58 0 @jju oN) false Tryz.func300 λ_ _ _ _=>by delta j48 j35 jaB jb4;refine gz j0C λ_ b=>gz j49 λ_ d=> ?_;rewrite [<-b,<-d];kernel_rfl
theorem jeY:FS [(128,j4g),(177,j5g),(232,j0I),(238,j1p),(251,j1F),(293,j5h),(299,j8k),(300,j9r),(301,j3O)]:=(Za6 jaQ (Za6 jbP (Za6 j41 (Za6 j6P (Za6 j64 (Za6 jbQ (Za6 jf7 (Za6 jfO (Za6 j9Y Zas)))))))))
def j4Z (l:List qW) (b:List qV) (now:List qV) (t:qB×qE×qL) (d:Unit->Res) (f:Unit->Res):Res:=j1c now b λg=>bif !g then j0V t l now λh=>bif decide (h>=0) then f () else d () else d ()
def j9K:Z1d Unit:=Nd 61 61 [.R 1 y31 .S,.R 2 y3 .S,.t 4 (pB 4),.t 7 (pB 7),.R 10 y3 .O] [(4,y29,[.S,.S]),(7,y3,[.S])] λb d f=>j4Z b.1 b.2.1 b.2.2.1 d.1.2 (λ_=>f .normal [(1,v1 y31 b.1 .S),(2,v1 y3 b.2.1 .S),(4,pB 4),(7,pB 7)] [(4,⟨y29,d.1.1,d.1.2,[.S,.S]⟩),(7,⟨y3,d.2.1.1,d.2.1.2,[.S]⟩)]) (λ_=>f .ret [(8,v1 y31 [] .O),(9,vI 3)] [])
theorem jir:CN 0 30 Tryz.f254 j9K:=nK jeY [] oN ([1,2,4,7],[4,7]) [] ([8,9],[]) λ_ _ _=>by delta j4Z j4g j5g;refine gz j1c λ_ b=>gz j0V λ_ d=> ?_;rewrite [<-b,<-d];kernel_rfl
def j6h (t:qB×qE×qL) (l:List qW) (b:List qV) (r:List qV) (d:qR->Int->Res):Res:=j0E t l λg=>bif !g then d [] 1 else j2T t r λh=>bif !h then d [] 2 else j48 t b λi=>bif !i then d [] 5 else j0V t l b λj=>bif decide (j<0) then d [] 5 else j0A t r λk=>j4Z l b k t (λ_=>j0V t l b λf=>j0m l λm=>j0G m f (Z9K (f+1)) λn=>j1Z t n r λp=>d p 0) (λ_=>d [] 3)
def jba:Sig Unit:=sg [.borrow y29 true,.borrow y31 false,.borrow y3 false,.borrow y3 true] [false,false] [(y29,none),(y31,none),(y3,none),(y3,none)] [] λb g k=>j6h b.1 b.2.1 b.2.2.1 b.2.2.2.1 (λd f=>k [w1 y31 d .O,wI f] [] [])
theorem jku:SO 254 jba:=fK (np:=0) jeY [j9K] (oI 30 0 @jir oN) false Tryz.func254 λ_ _ _ _=>by delta j6h j1F j5h j9r j5g j1p j9K j0I j3O j8k;refine gz j0E λ_ b=>gz j2T λ_ d=>gz j48 λ_ f=>gz j0V λ_ g=>gz j0A λ_ h=>gz j4Z λ_ i=>gz j0m λ_ j=>gz j0G λ_ k=>gz j1Z λ_ l=> ?_;rewrite [<-b,<-d,<-f,<-g,<-h,<-i,<-j,<-k,<-l];kernel_rfl
def j6f (t:qB×qE×qL) (l:List qW) (b:List qV) (d:qR->Int->Res):Res:=j0E t l λr=>bif !r then d [] 1 else j48 t b λg=>bif !g then d [] 5 else j0V t l b λh=>bif decide (h<0) then d [] 5 else j0V t l b λf=>j0m l λi=>j0G i f (Z9K (f+1)) λj=>d j 0
def jb8:Sig Unit:=sg [.borrow y29 true,.borrow y31 false,.borrow y3 false] [false,false] [(y29,none),(y31,none),(y3,none)] [] λb g k=>j6f b.1 b.2.1 b.2.2.1 (λd f=>k [w1 y31 d .O,wI f] [] [])
theorem jks:SO 255 jb8:=fK (np:=0) (Za6 jbP (Za6 j41 (Za6 j64 (Za6 jfO (Za6 j9Y Zas))))) [] oN false Tryz.func255 λ_ _ _ _=>by delta j6f j1F j9r j5g j0I j3O;refine gz j0E λ_ b=>gz j48 λ_ d=>gz j0V λ_ f=>gz j0m λ_ g=>gz j0G λ_ h=> ?_;rewrite [<-b,<-d,<-f,<-g,<-h];kernel_rfl
end
end Go.PI.G
