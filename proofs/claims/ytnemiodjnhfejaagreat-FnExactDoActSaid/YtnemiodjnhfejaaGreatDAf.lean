/-
  Program's code interpreted over typed values; printed texts; plain laws. No conditions.
-/
import Derived.Test.YtnemiodjnhfejaaGreatDAd
import Derived.Test.YtnemiodjnhfejaaGreatDAe
set_option linter.unusedVariables false
set_option maxRecDepth 100000
namespace Go.PI.G
noncomputable section
open Go Go.PI Go.Proofs
open Go.Code (pl pr)
def j0I (r:List qV) (b:qW->Res):Res:=bif lim (0+(List.length r)) then b r else none
def j7X:Sig Unit:=sg [.borrow y3 true] [true] [(y3,none)] [] λd f k=>j0I d.1 (λb=>k [⟨y3,true,b,[.O]⟩] [] [])
theorem j5c:SO 115 j7X:=fK (np:=0) Zas [] oN false Tryz.func115 λ_ _ _ _=>by kernel_rfl
def j4S (c:qB×Int×Bool×Bool×Int×Int×qB) (d:Int×Int×qB) (b:Bool->Res):Res:=bif (d.1==0) then j1A d λr=>bif r then b (!c.2.2.1) else b false else j1A d λf=>bif f then b (d.1==c.2.1) else b false
def j9z:Sig Unit:=sg [.look y7 true,.look y2 true] [false] [(y7,none),(y2,none)] [] λb f k=>j4S b.1 b.2.1 (λd=>k [wB d] [] [])
theorem jh6:SO 281 j9z:=fK (np:=0) (Za6 j8G Zas) [] oN false Tryz.func281 λ_ _ _ _=>by delta j4S jbJ;refine gz j1A λ_ b=> ?_;rewrite [<-b];kernel_rfl
theorem jj4:FS [(227,j1l),(281,j9z)]:=(Za6 j40 (Za6 jh6 Zas))
def j5W (d:List qC) (f:Int) (r:List qV) (b:Int) (rec:Int->Res) (g:Unit->Res) (h:Unit->Res):Res:=bif decide (b<f) then bif inb b (List.length d) then bif inb b (List.length r) then j4S (nth (eS,0,false,false,0,0,eS) d b) (nth (0,0,eS) r b) λi=>bif !i then h () else rec (Z9K (b+1)) else none else none else g ()
def j8w (b:List qC) (d:Int) (r:List qV):Int->(Int->Res)->((Unit->Res)×(Unit->Res))->Res:=λv rec q=>j5W b d r v (λf=>rec (f)) q.1 q.2
def jdO (b:List qC) (d:Int) (r:List qV) (n:Nat) (f:Int) (g:Unit->Res) (h:Unit->Res):Res:=Z1f (j8w b d r) n (f) (g,h)
def jd6:Z1d Unit:=NdL 36 36 [.t 3 (pB 3),.R 20 y8 .S,.I 21,.I 22] [(3,y3,[.S])] (λb d=>(b.2.2.1)) (λb v=>(b.1,b.2.1,v,())) (λd v=>((d.1.1,d.1.2),())) (λb d=>j8w b.1 b.2.1 d.1.2) λb d f=>((λ_=>f (.exit 0) [] []),(λ_=>f .ret [(4,vB false)] []))
theorem jnU:CN 0 58 Tryz.f228 jd6:=lK jj4 [] oN ([],[]) [(0,[],[])] ([4],[]) λ_ _ _ _ _=>by kernel_rfl
def j2N (t:qB×qE×qL) (r:List qV) (b:Bool->Res):Res:=j0C t λd=>bif !d then b false else bif ((nI (List.length r)) != (nI (List.length t.2.1))) then b false else jdO t.2.1 (nI (List.length t.2.1)) r Z1c 0 (λ_=>b true) (λ_=>b false)
def j93:Sig Unit:=sg [.look y29 true,.look y3 true] [false] [(y29,none),(y3,none)] [] λb f k=>j2N b.1 b.2.1 (λd=>k [wB d] [] [])
theorem jeI:SO 228 j93:=fK (np:=0) jj4 [jd6] (oI 58 0 @jnU oN) false Tryz.func228 λ_ _ _ _=>by delta j2N j1l jd6 jdO;refine gz j0C λ_ b=>gz j8w λ_ d=> ?_;rewrite [<-b,<-d];kernel_rfl
def j4T (f:qL) (g:Int) (t:qB×qE×qL) (r:List qV) (d:List qV) (b:Int) (rec:qW->Int->Res) (i:qW->Res):Res:=bif decide (b<g) then bif inb b (List.length f) then j0W t (nth eS f b) λh=>bif inb h (List.length r) then bif lim ((List.length d)+1) then rec (d++[nth (0,0,eS) r h]) (Z9K (b+1)) else none else none else none else i d
def jaP (d:qL) (f:Int) (t:qB×qE×qL) (r:List qV):(qW×Int)->(qW×Int->Res)->((qW->Res))->Res:=λv rec q=>j4T d f t r v.1 v.2 (λb g=>rec (b,g)) q
def jhy (d:qL) (f:Int) (t:qB×qE×qL) (r:List qV) (n:Nat) (b:List qV) (g:Int) (h:qW->Res):Res:=Z1f (jaP d f t r) n (b,g) (h)
def jgp:Z1d Unit:=NdL 28 28 [.t 2 (pB 2),.t 3 (pB 3),.R 5 y3 .O,.R 10 y0 .S,.I 11,.I 12] [(2,y29,[.S,.S]),(3,y3,[.S])] (λb d=>(b.1,b.2.2.2.1)) (λb v=>(v.1,b.2.1,b.2.2.1,v.2,())) (λd v=>((d.1.1,d.1.2),(d.2.1.1,d.2.1.2),())) (λb d=>jaP b.2.1 b.2.2.1 d.1.2 d.2.1.2) λb d g=>((λf=>g (.exit 0) [(5,v1 y3 f .O)] []))
theorem jmQ:CN 0 58 Tryz.f173 jgp:=lK (Za6 j6u Zas) [] oN ([],[]) [(0,[5],[])] ([],[]) λ_ _ _ _ _=>by kernel_rfl
def j0H (t:qB×qE×qL) (r:List qV) (d:qW->Res):Res:=jhy t.2.2 (nI (List.length t.2.2)) t r Z1c [] 0 λb=>d b
def j1z:Sig Unit:=sg [.borrow y29 true,.borrow y3 true] [false] [(y29,none),(y3,none)] [] λb f k=>j0H b.1 b.2.1 (λd=>k [w1 y3 d .O] [] [])
theorem j7L:SO 173 j1z:=fK (np:=0) (Za6 j6u Zas) [jgp] (oI 58 0 @jmQ oN) false Tryz.func173 λ_ _ _ _=>by kernel_rfl
def j3z (a:List qV) (b:List qV) (i:Int) (rec:Int->Res) (d:Unit->Res) (f:Bool->Res):Res:=bif decide (i<(nI (List.length a))) then bif decide (i<(nI (List.length b))) then bif inb i (List.length a) then bif inb i (List.length b) then bif !(((nth (0,0,eS) a i).1==(nth (0,0,eS) b i).1)&&(((nth (0,0,eS) a i).2.1==(nth (0,0,eS) b i).2.1)&&(sEq (nth (0,0,eS) a i).2.2 (nth (0,0,eS) b i).2.2))) then bif inb i (List.length a) then bif inb i (List.length b) then j98 (nth (0,0,eS) a i) (nth (0,0,eS) b i) λr=>f r else none else none else rec (Z9K (i+1)) else none else none else d () else d ()
def j9U (a:List qV) (b:List qV):Int->(Int->Res)->((Unit->Res)×(Bool->Res))->Res:=λv rec q=>j3z a b v (λi=>rec (i)) q.1 q.2
def jg3 (a:List qV) (b:List qV) (n:Nat) (i:Int) (d:Unit->Res) (f:Bool->Res):Res:=Z1f (j9U a b) n (i) (d,f)
def jfu:Z1d Unit:=NdL 41 41 [.R 0 y3 .S,.R 1 y3 .S,.I 5] [] (λb d=>(b.2.2.1)) (λb v=>(b.1,b.2.1,v,())) (λd v=>()) (λb d=>j9U b.1 b.2.1) λb d f=>((λ_=>f (.exit 0) [(0,v1 y3 b.1 .S),(1,v1 y3 b.2.1 .S)] []),(λg=>f .ret [(4,vB g)] []))
theorem jlA:CN 0 26 Tryz.f229 jfu:=lK (Za6 jh3 Zas) [] oN ([],[]) [(0,[0,1],[])] ([4],[]) λ_ _ _ _ _=>by kernel_rfl
def j4M (a:List qV) (b:List qV) (d:Bool->Res):Res:=jg3 a b Z1c 0 (λ_=>d (decide ((nI (List.length a))<(nI (List.length b))))) (λt=>d t)
def j6V:Sig Unit:=sg [.look y3 false,.look y3 false] [false] [(y3,none),(y3,none)] [] λb f k=>j4M b.1 b.2.1 (λd=>k [wB d] [] [])
theorem jh2:SO 229 j6V:=fK (np:=0) (Za6 jh3 Zas) [jfu] (oI 26 0 @jlA oN) false Tryz.func229 λ_ _ _ _=>by kernel_rfl
theorem jim:FS [(173,j1z),(227,j1l),(228,j93),(229,j6V)]:=(Za6 j7L (Za6 j40 (Za6 jeI (Za6 jh2 Zas))))
def j2G (l:List qW) (d:List qW) (f:Int) (t:qB×qE×qL) (b:Int) (rec:Int->Res) (h:Unit->Res) (g:Unit->Res):Res:=bif decide (b<f) then bif inb b (List.length d) then j2N t (nth [] d b) λr=>bif !r then g () else bif decide (b>0) then bif inb (Z9K (b-1)) (List.length l) then j0H t (nth [] l (Z9K (b-1))) λi=>j0H t (nth [] d b) λj=>j4M i j λk=>bif !k then g () else rec (Z9K (b+1)) else none else rec (Z9K (b+1)) else none else h ()
def j4N (l:List qW) (b:List qW) (d:Int) (t:qB×qE×qL):Int->(Int->Res)->((Unit->Res)×(Unit->Res))->Res:=λv rec q=>j2G l b d t v (λf=>rec (f)) q.1 q.2
def jcR (l:List qW) (b:List qW) (d:Int) (t:qB×qE×qL) (n:Nat) (f:Int) (g:Unit->Res) (h:Unit->Res):Res:=Z1f (j4N l b d t) n (f) (g,h)
def jc8:Z1d Unit:=NdL 45 45 [.R 1 y31 .S,.t 2 (pB 2),.R 15 y31 .S,.I 16,.I 17] [(2,y29,[.S,.S])] (λb d=>(b.2.2.2.1)) (λb v=>(b.1,b.2.1,b.2.2.1,v,())) (λd v=>((d.1.1,d.1.2),())) (λb d=>j4N b.1 b.2.1 b.2.2.1 d.1.2) λb d f=>((λ_=>f (.exit 0) [] []),(λ_=>f .ret [(4,vB false)] []))
theorem jmK:CN 0 58 Tryz.f172 jc8:=lK jim [] oN ([],[]) [(0,[],[])] ([4],[]) λ_ _ _ _ _=>by delta j4N j2G j93 j1z j6V;refine gz j2N λ_ b=>gz j0H λ_ d=>gz j4M λ_ f=> ?_;rewrite [<-b,<-d,<-f];kernel_rfl
def j0G (t:qB×qE×qL) (l:List qW) (b:Bool->Res):Res:=j0C t λr=>bif !r then b false else bif decide ((nI (List.length l))>60) then b false else jcR l l (nI (List.length l)) t Z1c 0 (λ_=>b true) (λ_=>b false)
def j1y:Sig Unit:=sg [.look y29 true,.look y31 false] [false] [(y29,none),(y31,none)] [] λb f k=>j0G b.1 b.2.1 (λd=>k [wB d] [] [])
theorem j5b:SO 172 j1y:=fK (np:=0) jim [jc8] (oI 58 0 @jmK oN) false Tryz.func172 λ_ _ _ _=>by delta j0G j1l jc8 jcR;refine gz j0C λ_ b=>gz j4N λ_ d=> ?_;rewrite [<-b,<-d];kernel_rfl
def j3G (f:List qW) (h:Int) (b:List qW) (d:Int) (rec:qR->Int->Res) (g:qR->Res):Res:=bif decide (d<h) then bif inb d (List.length f) then j0I (nth [] f d) λr=>bif lim ((List.length b)+1) then rec (b++[r]) (Z9K (d+1)) else none else none else g b
def j9X (d:List qW) (f:Int):(qR×Int)->(qR×Int->Res)->((qR->Res))->Res:=λv rec q=>j3G d f v.1 v.2 (λb g=>rec (b,g)) q
def jg6 (f:List qW) (g:Int) (n:Nat) (b:List qW) (h:Int) (d:qR->Res):Res:=Z1f (j9X f g) n (b,h) (d)
def jfx:Z1d Unit:=NdL 20 20 [.R 3 y31 .O,.R 7 y31 .S,.I 8,.I 9] [] (λb f=>(b.1,b.2.2.2.1)) (λb v=>(v.1,b.2.1,b.2.2.1,v.2,())) (λf v=>()) (λb f=>j9X b.2.1 b.2.2.1) λb f g=>((λd=>g (.exit 0) [(3,v1 y31 d .O)] []))
theorem jlK:CN 0 58 Tryz.f244 jfx:=lK (Za6 j5c Zas) [] oN ([],[]) [(0,[3],[])] ([],[]) λ_ _ _ _ _=>by kernel_rfl
def j77 (l:List qW) (d:qR->Res):Res:=jg6 l (nI (List.length l)) Z1c [] 0 λb=>d b
def j9y:Sig Unit:=sg [.borrow y31 false] [false] [(y31,none)] [] λd f k=>j77 d.1 (λb=>k [w1 y31 b .O] [] [])
theorem jh5:SO 244 j9y:=fK (np:=0) (Za6 j5c Zas) [jfx] (oI 58 0 @jlK oN) false Tryz.func244 λ_ _ _ _=>by kernel_rfl
def j1P (a:List qV) (b:List qV) (f:Int) (d:Int) (rec:Int->Res) (g:Unit->Res) (h:Unit->Res):Res:=bif decide (d<f) then bif inb d (List.length a) then bif inb d (List.length b) then bif !(((nth (0,0,eS) a d).1==(nth (0,0,eS) b d).1)&&(((nth (0,0,eS) a d).2.1==(nth (0,0,eS) b d).2.1)&&(sEq (nth (0,0,eS) a d).2.2 (nth (0,0,eS) b d).2.2))) then h () else rec (Z9K (d+1)) else none else none else g ()
def j79 (a:List qV) (b:List qV) (d:Int):Int->(Int->Res)->((Unit->Res)×(Unit->Res))->Res:=λv rec q=>j1P a b d v (λf=>rec (f)) q.1 q.2
def jcm (a:List qV) (b:List qV) (d:Int) (n:Nat) (f:Int) (g:Unit->Res) (h:Unit->Res):Res:=Z1f (j79 a b d) n (f) (g,h)
def jcc:Z1d Unit:=NdL 26 26 [.R 0 y3 .S,.R 1 y3 .S,.I 12,.I 13] [] (λb d=>(b.2.2.2.1)) (λb v=>(b.1,b.2.1,b.2.2.1,v,())) (λd v=>()) (λb d=>j79 b.1 b.2.1 b.2.2.1) λb d f=>((λ_=>f (.exit 0) [] []),(λ_=>f .ret [(4,vB false)] []))
theorem ji7:CN 0 58 Tryz.f126 jcc:=lK Zas [] oN ([],[]) [(0,[],[])] ([4],[]) λ_ _ _ _ _=>by kernel_rfl
def j4V (a:List qV) (b:List qV) (d:Bool->Res):Res:=bif ((nI (List.length a)) != (nI (List.length b))) then d false else jcm a b (nI (List.length a)) Z1c 0 (λ_=>d true) (λ_=>d false)
def j94:Sig Unit:=sg [.look y3 false,.look y3 false] [false] [(y3,none),(y3,none)] [] λb f k=>j4V b.1 b.2.1 (λd=>k [wB d] [] [])
theorem jjk:SO 126 j94:=fK (np:=0) Zas [jcc] (oI 58 0 @ji7 oN) false Tryz.func126 λ_ _ _ _=>by kernel_rfl
theorem jj3:FS [(126,j94),(172,j1y),(173,j1z)]:=(Za6 jjk (Za6 j5b (Za6 j7L Zas)))
def j3b (f:List qV) (d:List qW) (g:Int) (t:qB×qE×qL) (b:Int) (rec:Int->Res) (h:Unit->Res) (i:Int->Res):Res:=bif decide (b<g) then bif inb b (List.length d) then j0H t (nth [] d b) λr=>j4V r f λj=>bif j then i b else rec (Z9K (b+1)) else none else h ()
def j5V (b:List qV) (d:List qW) (f:Int) (t:qB×qE×qL):Int->(Int->Res)->((Unit->Res)×(Int->Res))->Res:=λv rec q=>j3b b d f t v (λg=>rec (g)) q.1 q.2
def jdN (b:List qV) (d:List qW) (f:Int) (t:qB×qE×qL) (n:Nat) (g:Int) (h:Unit->Res) (i:Int->Res):Res:=Z1f (j5V b d f t) n (g) (h,i)
def jd5:Z1d Unit:=NdL 27 27 [.R 2 y3 .S,.t 3 (pB 3),.R 13 y31 .S,.I 14,.I 15] [(3,y29,[.S,.S])] (λb d=>(b.2.2.2.1)) (λb v=>(b.1,b.2.1,b.2.2.1,v,())) (λd v=>((d.1.1,d.1.2),())) (λb d=>j5V b.1 b.2.1 b.2.2.1 d.1.2) λb d f=>((λ_=>f (.exit 0) [] []),(λg=>f .ret [(6,vI g)] []))
theorem jnT:CN 0 58 Tryz.f114 jd5:=lK jj3 [] oN ([],[]) [(0,[],[])] ([6],[]) λ_ _ _ _ _=>by delta j5V j3b j1z j94;refine gz j0H λ_ b=>gz j4V λ_ d=> ?_;rewrite [<-b,<-d];kernel_rfl
def j25 (t:qB×qE×qL) (l:List qW) (d:List qV) (b:Int->Res):Res:=j0G t l λr=>bif !r then b (-1) else jdN d l (nI (List.length l)) t Z1c 0 (λ_=>b (-1)) (λf=>b f)
def jbI:Sig Unit:=sg [.look y29 true,.look y31 false,.look y3 false] [false] [(y29,none),(y31,none),(y3,none)] [] λb f k=>j25 b.1 b.2.1 b.2.2.1 (λd=>k [wI d] [] [])
theorem jeH:SO 114 jbI:=fK (np:=0) jj3 [jd5] (oI 58 0 @jnT oN) false Tryz.func114 λ_ _ _ _=>by delta j25 j1y jd5 jdN;refine gz j0G λ_ b=>gz j5V λ_ d=> ?_;rewrite [<-b,<-d];kernel_rfl
theorem jds:FS [(115,j7X),(173,j1z),(229,j6V)]:=(Za6 j5c (Za6 j7L (Za6 jh2 Zas)))
def j78 (b:List qW) (done:Bool) (t:qB×qE×qL) (r:List qV) (x:List qV) (d:qR->Bool->Res):Res:=bif !done then j0H t r λf=>j0H t x λg=>j4M f g λh=>bif h then j0I r λi=>bif lim ((List.length b)+1) then d (b++[i]) true else none else d b done else d b done
def j8B:Z1d Unit:=Nd 48 48 [.t 3 (pB 3),.t 5 (pB 5),.R 7 y31 .O,.B 8,.t 10 (pB 10),.R 12 y31 .S,.I 13,.I 14] [(3,y29,[.S,.S]),(5,y3,[.S]),(10,y3,[.S])] λg b h=>j78 g.1 g.2.1 b.1.2 b.2.1.2 b.2.2.1.2 (λf d=>h .normal [(3,pB 3),(5,pB 5),(7,v1 y31 f .O),(8,vB d),(10,pB 10),(12,v1 y31 g.2.2.1 .S),(13,vI g.2.2.2.1),(14,vI g.2.2.2.2.1)] [(3,⟨y29,b.1.1,b.1.2,[.S,.S]⟩),(5,⟨y3,b.2.1.1,b.2.1.2,[.S]⟩),(10,⟨y3,b.2.2.1.1,b.2.2.1.2,[.S]⟩)])
theorem jmS:CN 0 15666 Tryz.f312 j8B:=nK jds [] oN ([3,5,7,8,10,12,13,14],[3,5,10]) [] ([],[]) λ_ _ _=>by delta j78 j1z j6V j7X;refine gz j0H λ_ b=>gz j4M λ_ d=>gz j0I λ_ f=> ?_;rewrite [<-b,<-d,<-f];kernel_rfl
def j2H (g:List qW) (i:Int) (t:qB×qE×qL) (r:List qV) (h:List qW) (done:Bool) (b:Int) (rec:qR->Bool->Int->Res) (j:qR->Bool->Res):Res:=bif decide (b<i) then bif inb b (List.length g) then j78 h done t r (nth [] g b) λd f=>j0I (nth [] g b) λk=>bif lim ((List.length d)+1) then rec (d++[k]) f (Z9K (b+1)) else none else none else j h done
def j4U (d:List qW) (f:Int) (t:qB×qE×qL) (r:List qV):(qR×Bool×Int)->(qR×Bool×Int->Res)->((qR->Bool->Res))->Res:=λv rec q=>j2H d f t r v.1 v.2.1 v.2.2 (λb done g=>rec (b,done,g)) q
def jcV (d:List qW) (f:Int) (t:qB×qE×qL) (r:List qV) (n:Nat) (b:List qW) (done:Bool) (g:Int) (h:qR->Bool->Res):Res:=Z1f (j4U d f t r) n (b,done,g) (h)
def jcb:Z1d Unit:=NdL 48 48 [.t 3 (pB 3),.t 5 (pB 5),.R 7 y31 .O,.B 8,.R 12 y31 .S,.I 13,.I 14] [(3,y29,[.S,.S]),(5,y3,[.S])] (λd b=>(d.1,d.2.1,d.2.2.2.2.1)) (λd v=>(v.1,v.2.1,d.2.2.1,d.2.2.2.1,v.2.2,())) (λb v=>((b.1.1,b.1.2),(b.2.1.1,b.2.1.2),())) (λd b=>j4U d.2.2.1 d.2.2.2.1 b.1.2 b.2.1.2) λd b h=>((λg f=>h (.exit 0) [(5,pB 5),(7,v1 y31 g .O),(8,vB f)] [(5,⟨y3,b.2.1.1,b.2.1.2,[.S]⟩)]))
theorem jmR:CN 0 122 Tryz.f312 jcb:=lK jds [j8B] (oI 114 0 @jmS oN) ([],[]) [(0,[5,7,8],[5])] ([],[]) λ_ _ _ _ _=>by delta j4U j2H j8B j7X;refine gz j78 λ_ b=>gz j0I λ_ d=> ?_;rewrite [<-b,<-d];kernel_rfl
def j3Y (t:qB×qE×qL) (l:List qW) (r:List qV) (d:qR->Res):Res:=jcV l (nI (List.length l)) t r Z1c [] false 0 λb done=>bif !done then j0I r λf=>bif lim ((List.length b)+1) then d (b++[f]) else none else d b
def jdI:Sig Unit:=sg [.borrow y29 true,.borrow y31 false,.borrow y3 true] [false] [(y29,none),(y31,none),(y3,none)] [] λb f k=>j3Y b.1 b.2.1 b.2.2.1 (λd=>k [w1 y31 d .O] [] [])
theorem jix:SO 312 jdI:=fK (np:=0) jds [j8B,jcb] (oI 122 1 @jmR oN) false Tryz.func312 λ_ _ _ _=>by delta j3Y jcb j7X jcV;refine gz j4U λ_ b=>gz j0I λ_ d=> ?_;rewrite [<-b,<-d];kernel_rfl
def j8b (t:qB×qE×qL) (l:List qW) (r:List qV) (b:qR->Int->Res):Res:=j0G t l λd=>bif !d then b [] 1 else j2N t r λf=>bif !f then b [] 2 else j0H t r λg=>j25 t l g λh=>bif decide (h>=0) then b [] 3 else bif ((nI (List.length l))==60) then b [] 4 else j3Y t l r λi=>b i 0
def jiL:Sig Unit:=sg [.borrow y29 true,.borrow y31 false,.borrow y3 true] [false,false] [(y29,none),(y31,none),(y3,none)] [] λb g k=>j8b b.1 b.2.1 b.2.2.1 (λd f=>k [w1 y31 d .O,wI f] [] [])
theorem joV:SO 288 jiL:=fK (np:=0) (Za6 jeH (Za6 j5b (Za6 j7L (Za6 jeI (Za6 jix Zas))))) [] oN false Tryz.func288 λ_ _ _ _=>by delta j8b j1y j93 j1z jbI jdI;refine gz j0G λ_ b=>gz j2N λ_ d=>gz j0H λ_ f=>gz j25 λ_ g=>gz j3Y λ_ h=> ?_;rewrite [<-b,<-d,<-f,<-g,<-h];kernel_rfl
theorem jj1:FS [(227,j1l),(230,j2X),(281,j9z)]:=(Za6 j40 (Za6 j6u (Za6 jh6 Zas)))
def j3a (d:List qV) (f:qL) (g:Int) (t:qB×qE×qL) (b:Int) (rec:Int->Res) (h:Unit->Res) (i:Unit->Res):Res:=bif decide (b<g) then bif inb b (List.length f) then bif inb b (List.length d) then j0W t (nth eS f b) λr=>bif inb r (List.length t.2.1) then j4S (nth (eS,0,false,false,0,0,eS) t.2.1 r) (nth (0,0,eS) d b) λj=>bif !j then i () else rec (Z9K (b+1)) else none else none else none else h ()
def j5T (b:List qV) (d:qL) (f:Int) (t:qB×qE×qL):Int->(Int->Res)->((Unit->Res)×(Unit->Res))->Res:=λv rec q=>j3a b d f t v (λg=>rec (g)) q.1 q.2
def jdM (b:List qV) (d:qL) (f:Int) (t:qB×qE×qL) (n:Nat) (g:Int) (h:Unit->Res) (i:Unit->Res):Res:=Z1f (j5T b d f t) n (g) (h,i)
def jd3:Z1d Unit:=NdL 40 40 [.R 1 y3 .S,.t 2 (pB 2),.R 19 y0 .S,.I 20,.I 21] [(2,y29,[.S,.S])] (λb d=>(b.2.2.2.1)) (λb v=>(b.1,b.2.1,b.2.2.1,v,())) (λd v=>((d.1.1,d.1.2),())) (λb d=>j5T b.1 b.2.1 b.2.2.1 d.1.2) λb d f=>((λ_=>f (.exit 0) [] []),(λ_=>f .ret [(4,vB false)] []))
theorem jnR:CN 0 58 Tryz.f313 jd3:=lK jj1 [] oN ([],[]) [(0,[],[])] ([4],[]) λ_ _ _ _ _=>by delta j5T j3a j2X j9z;refine gz j0W λ_ b=>gz j4S λ_ d=> ?_;rewrite [<-b,<-d];kernel_rfl
def j5S (t:qB×qE×qL) (b:List qV) (d:Bool->Res):Res:=j0C t λr=>bif !r then d false else bif ((nI (List.length b)) != (nI (List.length t.2.2))) then d false else jdM b t.2.2 (nI (List.length t.2.2)) t Z1c 0 (λ_=>d true) (λ_=>d false)
def jfk:Sig Unit:=sg [.look y29 true,.look y3 false] [false] [(y29,none),(y3,none)] [] λb f k=>j5S b.1 b.2.1 (λd=>k [wB d] [] [])
theorem jji:SO 313 jfk:=fK (np:=0) jj1 [jd3] (oI 58 0 @jnR oN) false Tryz.func313 λ_ _ _ _=>by delta j5S j1l jd3 jdM;refine gz j0C λ_ b=>gz j5T λ_ d=> ?_;rewrite [<-b,<-d];kernel_rfl
def j27 (f:Int) (h:List qW) (g:Int) (d:List qW) (b:Int) (rec:qR->Int->Res) (i:qR->Res):Res:=bif decide (b<g) then bif inb b (List.length h) then bif (b != f) then j0I (nth [] h b) λr=>bif lim ((List.length d)+1) then rec (d++[r]) (Z9K (b+1)) else none else rec d (Z9K (b+1)) else none else i d
def j7B (b:Int) (h:List qW) (f:Int):(qR×Int)->(qR×Int->Res)->((qR->Res))->Res:=λv rec q=>j27 b h f v.1 v.2 (λd g=>rec (d,g)) q
def jdo (b:Int) (i:List qW) (f:Int) (n:Nat) (d:List qW) (g:Int) (h:qR->Res):Res:=Z1f (j7B b i f) n (d,g) (h)
def jcn:Z1d Unit:=NdL 26 26 [.I 1,.R 5 y31 .O,.R 9 y31 .S,.I 10,.I 11] [] (λb f=>(b.2.1,b.2.2.2.2.1)) (λb v=>(b.1,v.1,b.2.2.1,b.2.2.2.1,v.2,())) (λf v=>()) (λb f=>j7B b.1 b.2.2.1 b.2.2.2.1) λb f g=>((λd=>g (.exit 0) [(5,v1 y31 d .O)] []))
theorem jiX:CN 0 58 Tryz.f314 jcn:=lK (Za6 j5c Zas) [] oN ([],[]) [(0,[5],[])] ([],[]) λ_ _ _ _ _=>by kernel_rfl
def j26 (l:List qW) (b:Int) (f:qR->Res):Res:=jdo b l (nI (List.length l)) Z1c [] 0 λd=>f d
def j9S:Sig Unit:=sg [.borrow y31 false,.borrow tI false] [false] [(y31,none),(tI,none)] [] λb f k=>j26 b.1 b.2.1 (λd=>k [w1 y31 d .O] [] [])
theorem jdX:SO 314 j9S:=fK (np:=0) (Za6 j5c Zas) [jcn] (oI 58 0 @jiX oN) false Tryz.func314 λ_ _ _ _=>by kernel_rfl
def j8c (t:qB×qE×qL) (l:List qW) (d:List qV) (r:List qV) (b:qR->Int->Res):Res:=j0G t l λh=>bif !h then b [] 1 else j2N t r λi=>bif !i then b [] 2 else j25 t l d λf=>j5S t d λj=>bif !j then b [] 5 else bif decide (f<0) then b [] 5 else j26 l f λg=>j0H t r λk=>j25 t g k λm=>bif decide (m>=0) then b [] 3 else j3Y t g r λn=>b n 0
def jiM:Sig Unit:=sg [.borrow y29 true,.borrow y31 false,.borrow y3 false,.borrow y3 true] [false,false] [(y29,none),(y31,none),(y3,none),(y3,none)] [] λb g k=>j8c b.1 b.2.1 b.2.2.1 b.2.2.2.1 (λd f=>k [w1 y31 d .O,wI f] [] [])
theorem joW:SO 289 jiM:=fK (np:=0) (Za6 jeH (Za6 j5b (Za6 j7L (Za6 jeI (Za6 jix (Za6 jji (Za6 jdX Zas))))))) [] oN false Tryz.func289 λ_ _ _ _=>by delta j8c j1y j93 jbI jfk j9S j1z jdI;refine gz j0G λ_ b=>gz j2N λ_ d=>gz j25 λ_ f=>gz j5S λ_ g=>gz j26 λ_ h=>gz j0H λ_ i=>gz j3Y λ_ j=> ?_;rewrite [<-b,<-d,<-f,<-g,<-h,<-i,<-j];kernel_rfl
def j8a (t:qB×qE×qL) (l:List qW) (b:List qV) (d:qR->Int->Res):Res:=j0G t l λr=>bif !r then d [] 1 else j25 t l b λf=>j5S t b λg=>bif !g then d [] 5 else bif decide (f<0) then d [] 5 else j26 l f λh=>d h 0
def jiK:Sig Unit:=sg [.borrow y29 true,.borrow y31 false,.borrow y3 false] [false,false] [(y29,none),(y31,none),(y3,none)] [] λb g k=>j8a b.1 b.2.1 b.2.2.1 (λd f=>k [w1 y31 d .O,wI f] [] [])
theorem joU:SO 290 jiK:=fK (np:=0) (Za6 jeH (Za6 j5b (Za6 jji (Za6 jdX Zas)))) [] oN false Tryz.func290 λ_ _ _ _=>by delta j8a j1y jbI jfk j9S;refine gz j0G λ_ b=>gz j25 λ_ d=>gz j5S λ_ f=>gz j26 λ_ g=> ?_;rewrite [<-b,<-d,<-f,<-g];kernel_rfl
theorem j6s:FS [(172,j1y),(210,j4J),(230,j2X),(287,j5N)]:=(Za6 j5b (Za6 jeG (Za6 j6u (Za6 jfI Zas))))
def j5X (l:List qW) (t:qB×qE×qL) (d:qG) (b:Bool->Res):Res:=j0G t l λr=>bif !r then b true else j2M d λf=>bif !f then b true else bif sNe d.2.1 t.1 then b true else b (d.1==1)
def j2I:Z1d Unit:=Nd 106 106 [.R 1 y31 .S,.t 3 (pB 3),.t 5 (pB 5)] [(3,y29,[.S,.S]),(5,y13,[.S,.S])] λf b g=>j5X f.1 b.1.2 b.2.1.2 (λd=>g .normal [(1,v1 y31 f.1 .S),(3,pB 3),(5,pB 5),(37,vB d)] [(3,⟨y29,b.1.1,b.1.2,[.S,.S]⟩),(5,⟨y13,b.2.1.1,b.2.1.2,[.S,.S]⟩)])
theorem jlD:CN 0 12 Tryz.f291 j2I:=nK j6s [] oN ([1,3,5,37],[3,5]) [] ([],[]) λ_ _ _=>by delta j5X j1y j4J;refine gz j0G λ_ b=>gz j2M λ_ d=> ?_;rewrite [<-b,<-d];kernel_rfl
def j0L (g:Int) (f:List qV) (h:Int) (d:qG) (b:Int) (x:List qV) (rec:Int->qW->Res) (i:qW->Res):Res:=bif decide (b<h) then bif inb b (List.length f) then bif (d.1 != 4) then bif lim ((List.length x)+1) then rec (Z9K (b+1)) (x++[nth (0,0,eS) f b]) else none else bif (b != g) then bif lim ((List.length x)+1) then rec (Z9K (b+1)) (x++[nth (0,0,eS) f b]) else none else rec (Z9K (b+1)) x else none else i x
def j3A (b:Int) (f:List qV) (g:Int) (d:qG):(Int×qW)->(Int×qW->Res)->((qW->Res))->Res:=λv rec q=>j0L b f g d v.1 v.2 (λh x=>rec (h,x)) q
def j8x (b:Int) (f:List qV) (g:Int) (d:qG) (n:Nat) (h:Int) (x:List qV) (i:qW->Res):Res:=Z1f (j3A b f g d) n (h,x) (i)
def j50:Z1d Unit:=NdL 106 106 [.t 5 (pB 5),.R 10 y31 .O,.I 11,.t 14 (pB 14),.R 54 y31 .S,.I 55,.I 56,.R 62 y3 .S,.I 63,.I 64] [(5,y13,[.S,.S]),(14,y3,[.O])] (λb d=>(b.2.2.2.2.2.2.2.1,d.2.1.2)) (λb v=>(b.1,b.2.1,b.2.2.1,b.2.2.2.1,b.2.2.2.2.1,b.2.2.2.2.2.1,b.2.2.2.2.2.2.1,v.1,())) (λd v=>((d.1.1,d.1.2),(d.2.1.1,v.2),())) (λb d=>j3A b.2.1 b.2.2.2.2.2.1 b.2.2.2.2.2.2.1 d.1.2) λb d f=>((λg=>f (.exit 2) [(5,pB 5),(10,v1 y31 b.1 .O),(11,vI b.2.1),(14,pB 14),(54,v1 y31 b.2.2.1 .S),(55,vI b.2.2.2.1),(56,vI b.2.2.2.2.1)] [(5,⟨y13,d.1.1,d.1.2,[.S,.S]⟩),(14,⟨y3,d.2.1.1,g,[.O]⟩)]))
theorem jlB:CN 0 1042842 Tryz.f291 j50:=lK j6s [j2I] oN ([],[]) [(2,[5,10,11,14,54,55,56],[5,14])] ([],[]) λ_ _ _ _ _=>by kernel_rfl
def j8y (b:Bool) (d:qG) (x:List qV) (f:qW->Res):Res:=bif b then bif inb 0 (List.length d.2.2.1) then bif lim ((List.length x)+1) then f (x++[(nth (eS,0,false,false,0,0,eS) d.2.2.1 0).2.2.2.2]) else none else none else f x
def j7G:Z1d Unit:=Nd 106 106 [.t 5 (pB 5),.R 10 y31 .O,.I 11,.t 14 (pB 14),.R 54 y31 .S,.I 55,.I 56,.B 86] [(5,y13,[.S,.S]),(14,y3,[.O])] λb d f=>j8y b.2.2.2.2.2.1 d.1.2 d.2.1.2 (λg=>f .normal [(5,pB 5),(10,v1 y31 b.1 .O),(11,vI b.2.1),(14,pB 14),(54,v1 y31 b.2.2.1 .S),(55,vI b.2.2.2.1),(56,vI b.2.2.2.2.1)] [(5,⟨y13,d.1.1,d.1.2,[.S,.S]⟩),(14,⟨y3,d.2.1.1,g,[.O]⟩)])
theorem jlE:CN 0 1042845 Tryz.f291 j7G:=nK j6s [j2I,j50] oN ([5,10,11,14,54,55,56],[5,14]) [] ([],[]) λ_ _ _=>by kernel_rfl
def j2f (h:Int) (g:List qW) (i:Int) (d:qG) (f:List qW) (b:Int) (rec:qR->Int->Res) (j:qR->Res):Res:=bif decide (b<i) then bif inb b (List.length g) then j8x h (nth [] g b) (nI (List.length (nth [] g b))) d Z1c 0 [] λx=>j8y (d.1==3) d x λk=>bif (d.1 != 2) then bif lim ((List.length f)+1) then rec (f++[k]) (Z9K (b+1)) else none else rec f (Z9K (b+1)) else none else j f
def j3B (b:Int) (g:List qW) (h:Int) (d:qG):(qR×Int)->(qR×Int->Res)->((qR->Res))->Res:=λv rec q=>j2f b g h d v.1 v.2 (λf i=>rec (f,i)) q
def jbR (b:Int) (g:List qW) (h:Int) (d:qG) (n:Nat) (f:List qW) (i:Int) (j:qR->Res):Res:=Z1f (j3B b g h d) n (f,i) (j)
def jaZ:Z1d Unit:=NdL 106 106 [.t 5 (pB 5),.R 10 y31 .O,.I 11,.R 54 y31 .S,.I 55,.I 56] [(5,y13,[.S,.S])] (λb d=>(b.1,b.2.2.2.2.1)) (λb v=>(v.1,b.2.1,b.2.2.1,b.2.2.2.1,v.2,())) (λd v=>((d.1.1,d.1.2),())) (λb d=>j3B b.2.1 b.2.2.1 b.2.2.2.1 d.1.2) λb d g=>((λf=>g (.exit 0) [(10,v1 y31 f .O)] []))
theorem jlC:CN 0 1018 Tryz.f291 jaZ:=lK j6s [j2I,j50,j7G] (oI 922 1 @jlB (oI 925 2 @jlE oN)) ([],[]) [(0,[10],[])] ([],[]) λ_ _ _ _ _=>by delta j3B j2f j50 j7G j8x;refine gz j3A λ_ b=>gz j8y λ_ d=> ?_;rewrite [<-b,<-d];kernel_rfl
def j73 (t:qB×qE×qL) (l:List qW) (d:qG) (b:qR->Int->Res):Res:=j5X l t d λi=>bif i then b [] 1 else j2o [t] d λr g=>bif (g != 0) then b [] g else j0W t d.2.2.2.2.1 λh=>jbR h l (nI (List.length l)) d Z1c [] 0 λf=>b f 0
def jht:Sig Unit:=sg [.borrow y29 true,.borrow y31 false,.borrow y13 true] [false,false] [(y29,none),(y31,none),(y13,none)] [] λb g k=>j73 b.1 b.2.1 b.2.2.1 (λd f=>k [w1 y31 d .O,wI f] [] [])
theorem jnn:SO 291 jht:=fK (np:=0) j6s [j2I,j50,j7G,jaZ] (oI 12 0 @jlD (oI 1018 3 @jlC oN)) false Tryz.func291 λ_ _ _ _=>by delta j73 j2I j5N j2X jaZ jbR;refine gz j5X λ_ b=>gz j2o λ_ d=>gz j0W λ_ f=>gz j3B λ_ g=> ?_;rewrite [<-b,<-d,<-f,<-g];kernel_rfl
def j1e (l:List qV) (b:qW->Res):Res:=bif lim (0+(List.length l)) then b l else none
def j8p:Sig Unit:=sg [.borrow y3 false] [false] [(y3,none)] [] λd f k=>j1e d.1 (λb=>k [w1 y3 b .O] [] [])
theorem j8i:SO 178 j8p:=fK (np:=0) Zas [] oN false Tryz.func178 λ_ _ _ _=>by kernel_rfl
def jda (c:qB×Int×Bool×Bool×Int×Int×qB) (d:Int×Int×qB) (b:Bool->Res):Res:=j1j d λr=>bif r then bif (d.1==c.2.1) then b true else bif (d.1==0) then b (!c.2.2.1) else b false else b false
def jpn:Sig Unit:=sg [.look y7 true,.look y2 true] [false] [(y7,none),(y2,none)] [] λb f k=>jda b.1 b.2.1 (λd=>k [wB d] [] [])
theorem jis:SO 315 jpn:=fK (np:=0) (Za6 j8E Zas) [] oN false Tryz.func315 λ_ _ _ _=>by kernel_rfl
def j5F (d:List qV) (f:Int) (t:qB×qE×qL) (b:Int) (rec:Int->Res) (g:Unit->Res) (h:Unit->Res):Res:=bif decide (b<f) then bif inb b (List.length d) then bif inb b (List.length t.2.1) then jda (nth (eS,0,false,false,0,0,eS) t.2.1 b) (nth (0,0,eS) d b) λr=>bif !r then h () else rec (Z9K (b+1)) else none else none else g ()
def jbo (b:List qV) (d:Int) (t:qB×qE×qL):Int->(Int->Res)->((Unit->Res)×(Unit->Res))->Res:=λv rec q=>j5F b d t v (λf=>rec (f)) q.1 q.2
def jiB (b:List qV) (d:Int) (t:qB×qE×qL) (n:Nat) (f:Int) (g:Unit->Res) (h:Unit->Res):Res:=Z1f (jbo b d t) n (f) (g,h)
def jhH:Z1d Unit:=NdL 31 31 [.t 2 (pB 2),.R 15 y3 .S,.I 16,.I 17] [(2,y29,[.S,.S])] (λb d=>(b.2.2.1)) (λb v=>(b.1,b.2.1,v,())) (λd v=>((d.1.1,d.1.2),())) (λb d=>jbo b.1 b.2.1 d.1.2) λb d f=>((λ_=>f (.exit 0) [] []),(λ_=>f .ret [(4,vB false)] []))
theorem jnN:CN 0 58 Tryz.f293 jhH:=lK (Za6 jis Zas) [] oN ([],[]) [(0,[],[])] ([4],[]) λ_ _ _ _ _=>by kernel_rfl
def j3O (t:qB×qE×qL) (r:List qV) (b:Bool->Res):Res:=bif ((nI (List.length r)) != (nI (List.length t.2.1))) then b false else jiB r (nI (List.length r)) t Z1c 0 (λ_=>b true) (λ_=>b false)
def j6R:Sig Unit:=sg [.look y29 true,.look y3 true] [false] [(y29,none),(y3,none)] [] λb f k=>j3O b.1 b.2.1 (λd=>k [wB d] [] [])
theorem jex:SO 293 j6R:=fK (np:=0) (Za6 jis Zas) [jhH] (oI 58 0 @jnN oN) false Tryz.func293 λ_ _ _ _=>by kernel_rfl
def j5E (f:qL) (g:Int) (t:qB×qE×qL) (r:List qV) (d:List qV) (b:Int) (rec:qW->Int->Res) (i:qW->Res):Res:=bif decide (b<g) then bif inb b (List.length f) then j0j t (nth eS f b) λh=>bif inb h (List.length r) then bif lim ((List.length d)+1) then rec (d++[nth (0,0,eS) r h]) (Z9K (b+1)) else none else none else none else i d
def jbn (d:qL) (f:Int) (t:qB×qE×qL) (r:List qV):(qW×Int)->(qW×Int->Res)->((qW->Res))->Res:=λv rec q=>j5E d f t r v.1 v.2 (λb g=>rec (b,g)) q
def jiA (d:qL) (f:Int) (t:qB×qE×qL) (r:List qV) (n:Nat) (b:List qV) (g:Int) (h:qW->Res):Res:=Z1f (jbn d f t r) n (b,g) (h)
def jhG:Z1d Unit:=NdL 28 28 [.t 2 (pB 2),.t 3 (pB 3),.R 5 y3 .O,.R 10 y0 .S,.I 11,.I 12] [(2,y29,[.S,.S]),(3,y3,[.S])] (λb d=>(b.1,b.2.2.2.1)) (λb v=>(v.1,b.2.1,b.2.2.1,v.2,())) (λd v=>((d.1.1,d.1.2),(d.2.1.1,d.2.1.2),())) (λb d=>jbn b.2.1 b.2.2.1 d.1.2 d.2.1.2) λb d g=>((λf=>g (.exit 0) [(5,v1 y3 f .O)] []))
theorem jnM:CN 0 58 Tryz.f238 jhG:=lK (Za6 j4d Zas) [] oN ([],[]) [(0,[5],[])] ([],[]) λ_ _ _ _ _=>by kernel_rfl
def j0V (t:qB×qE×qL) (r:List qV) (d:qW->Res):Res:=jiA t.2.2 (nI (List.length t.2.2)) t r Z1c [] 0 λb=>d b
def j22:Sig Unit:=sg [.borrow y29 true,.borrow y3 true] [false] [(y29,none),(y3,none)] [] λb f k=>j0V b.1 b.2.1 (λd=>k [w1 y3 d .O] [] [])
theorem j8F:SO 238 j22:=fK (np:=0) (Za6 j4d Zas) [jhG] (oI 58 0 @jnM oN) false Tryz.func238 λ_ _ _ _=>by kernel_rfl
def j3q (a:List qV) (b:List qV) (i:Int) (rec:Int->Res) (d:Unit->Res) (f:Bool->Res):Res:=bif decide (i<(nI (List.length a))) then bif decide (i<(nI (List.length b))) then bif inb i (List.length a) then bif inb i (List.length b) then bif !(((nth (0,0,eS) a i).1==(nth (0,0,eS) b i).1)&&(((nth (0,0,eS) a i).2.1==(nth (0,0,eS) b i).2.1)&&(sEq (nth (0,0,eS) a i).2.2 (nth (0,0,eS) b i).2.2))) then bif inb i (List.length a) then bif inb i (List.length b) then j8L (nth (0,0,eS) a i) (nth (0,0,eS) b i) λr=>f r else none else none else rec (Z9K (i+1)) else none else none else d () else d ()
def j9N (a:List qV) (b:List qV):Int->(Int->Res)->((Unit->Res)×(Bool->Res))->Res:=λv rec q=>j3q a b v (λi=>rec (i)) q.1 q.2
def jfR (a:List qV) (b:List qV) (n:Nat) (i:Int) (d:Unit->Res) (f:Bool->Res):Res:=Z1f (j9N a b) n (i) (d,f)
def jfr:Z1d Unit:=NdL 41 41 [.R 0 y3 .S,.R 1 y3 .S,.I 5] [] (λb d=>(b.2.2.1)) (λb v=>(b.1,b.2.1,v,())) (λd v=>()) (λb d=>j9N b.1 b.2.1) λb d f=>((λ_=>f (.exit 0) [(0,v1 y3 b.1 .S),(1,v1 y3 b.2.1 .S)] []),(λg=>f .ret [(4,vB g)] []))
theorem jln:CN 0 26 Tryz.f294 jfr:=lK (Za6 jgW Zas) [] oN ([],[]) [(0,[0,1],[])] ([4],[]) λ_ _ _ _ _=>by kernel_rfl
def j4g (a:List qV) (b:List qV) (d:Bool->Res):Res:=jfR a b Z1c 0 (λ_=>d (decide ((nI (List.length a))<(nI (List.length b))))) (λt=>d t)
def j6N:Sig Unit:=sg [.look y3 false,.look y3 false] [false] [(y3,none),(y3,none)] [] λb f k=>j4g b.1 b.2.1 (λd=>k [wB d] [] [])
theorem jgV:SO 294 j6N:=fK (np:=0) (Za6 jgW Zas) [jfr] (oI 26 0 @jln oN) false Tryz.func294 λ_ _ _ _=>by kernel_rfl
theorem jii:FS [(238,j22),(268,j47),(293,j6R),(294,j6N)]:=(Za6 j8F (Za6 j6t (Za6 jex (Za6 jgV Zas))))
def j2A (l:List qW) (d:List qW) (f:Int) (t:qB×qE×qL) (b:Int) (rec:Int->Res) (h:Unit->Res) (g:Unit->Res):Res:=bif decide (b<f) then bif inb b (List.length d) then j3O t (nth [] d b) λr=>bif !r then g () else bif decide (b>0) then bif inb (Z9K (b-1)) (List.length l) then j0V t (nth [] l (Z9K (b-1))) λi=>j0V t (nth [] d b) λj=>j4g i j λk=>bif !k then g () else rec (Z9K (b+1)) else none else rec (Z9K (b+1)) else none else h ()
def j4h (l:List qW) (b:List qW) (d:Int) (t:qB×qE×qL):Int->(Int->Res)->((Unit->Res)×(Unit->Res))->Res:=λv rec q=>j2A l b d t v (λf=>rec (f)) q.1 q.2
def jcz (l:List qW) (b:List qW) (d:Int) (t:qB×qE×qL) (n:Nat) (f:Int) (g:Unit->Res) (h:Unit->Res):Res:=Z1f (j4h l b d t) n (f) (g,h)
def jbX:Z1d Unit:=NdL 45 45 [.R 1 y31 .S,.t 2 (pB 2),.R 15 y31 .S,.I 16,.I 17] [(2,y29,[.S,.S])] (λb d=>(b.2.2.2.1)) (λb v=>(b.1,b.2.1,b.2.2.1,v,())) (λd v=>((d.1.1,d.1.2),())) (λb d=>j4h b.1 b.2.1 b.2.2.1 d.1.2) λb d f=>((λ_=>f (.exit 0) [] []),(λ_=>f .ret [(4,vB false)] []))
theorem jmq:CN 0 58 Tryz.f251 jbX:=lK jii [] oN ([],[]) [(0,[],[])] ([4],[]) λ_ _ _ _ _=>by delta j4h j2A j6R j22 j6N;refine gz j3O λ_ b=>gz j0V λ_ d=>gz j4g λ_ f=> ?_;rewrite [<-b,<-d,<-f];kernel_rfl
def j0Z (t:qB×qE×qL) (l:List qW) (b:Bool->Res):Res:=j0X t λr=>bif !r then b false else bif decide ((nI (List.length l))>60) then b false else jcz l l (nI (List.length l)) t Z1c 0 (λ_=>b true) (λ_=>b false)
def j2m:Sig Unit:=sg [.look y29 true,.look y31 false] [false] [(y29,none),(y31,none)] [] λb f k=>j0Z b.1 b.2.1 (λd=>k [wB d] [] [])
theorem j7K:SO 251 j2m:=fK (np:=0) jii [jbX] (oI 58 0 @jmq oN) false Tryz.func251 λ_ _ _ _=>by delta j0Z j47 jbX jcz;refine gz j0X λ_ b=>gz j4h λ_ d=> ?_;rewrite [<-b,<-d];kernel_rfl
def j2S (f:List qW) (h:Int) (b:List qW) (d:Int) (rec:qR->Int->Res) (g:qR->Res):Res:=bif decide (d<h) then bif inb d (List.length f) then j1e (nth [] f d) λr=>bif lim ((List.length b)+1) then rec (b++[r]) (Z9K (d+1)) else none else none else g b
def j8N (d:List qW) (f:Int):(qR×Int)->(qR×Int->Res)->((qR->Res))->Res:=λv rec q=>j2S d f v.1 v.2 (λb g=>rec (b,g)) q
def jeR (f:List qW) (g:Int) (n:Nat) (b:List qW) (h:Int) (d:qR->Res):Res:=Z1f (j8N f g) n (b,h) (d)
def je0:Z1d Unit:=NdL 21 21 [.R 3 y31 .O,.R 6 y31 .S,.I 7,.I 8] [] (λb f=>(b.1,b.2.2.2.1)) (λb v=>(v.1,b.2.1,b.2.2.1,v.2,())) (λf v=>()) (λb f=>j8N b.2.1 b.2.2.1) λb f g=>((λd=>g (.exit 0) [(3,v1 y31 d .O)] []))
theorem jki:CN 0 58 Tryz.f232 je0:=lK (Za6 j8i Zas) [] oN ([],[]) [(0,[3],[])] ([],[]) λ_ _ _ _ _=>by kernel_rfl
def j0A (l:List qW) (d:qR->Res):Res:=jeR l (nI (List.length l)) Z1c [] 0 λb=>d b
def j16:Sig Unit:=sg [.borrow y31 false] [false] [(y31,none)] [] λd f k=>j0A d.1 (λb=>k [w1 y31 b .O] [] [])
theorem j5q:SO 232 j16:=fK (np:=0) (Za6 j8i Zas) [je0] (oI 58 0 @jki oN) false Tryz.func232 λ_ _ _ _=>by kernel_rfl
theorem j9i:FS [(211,j4G),(232,j16),(251,j2m),(284,j0Y),(317,j6P),(324,jcj)]:=(Za6 jet (Za6 j5q (Za6 j7K (Za6 j4d (Za6 jgY (Za6 jiV Zas))))))
def j5B (l:List qW) (t:qB×qE×qL) (d:qG) (b:Bool->Res):Res:=j0Z t l λr=>bif !r then b true else j2J d λf=>bif !f then b true else bif sNe d.2.1 t.1 then b true else b (d.1==1)
def j4Y:Z1d Unit:=Nd 98 98 [.R 1 y31 .S,.t 3 (pB 3),.t 5 (pB 5)] [(3,y29,[.S,.S]),(5,y13,[.S,.S])] λf b g=>j5B f.1 b.1.2 b.2.1.2 (λd=>g .normal [(1,v1 y31 f.1 .S),(3,pB 3),(5,pB 5),(33,vB d)] [(3,⟨y29,b.1.1,b.1.2,[.S,.S]⟩),(5,⟨y13,b.2.1.1,b.2.1.2,[.S,.S]⟩)])
theorem jlq:CN 0 12 Tryz.f298 j4Y:=nK j9i [] oN ([1,3,5,33],[3,5]) [] ([],[]) λ_ _ _=>by delta j5B j2m j4G;refine gz j0Z λ_ b=>gz j2J λ_ d=> ?_;rewrite [<-b,<-d];kernel_rfl
def j3r (g:Int) (d:qG) (f:List qW) (b:Int) (rec:qR->Int->Res) (h:qR->Res):Res:=bif decide (b<g) then bif inb b (List.length f) then bif inb 0 (List.length d.2.2.1) then bif lim ((List.length (nth [] f b))+1) then bif inb b (List.length (upd f b ((nth [] f b)++[(nth (eS,0,false,false,0,0,eS) d.2.2.1 0).2.2.2.2]))) then bif (Z9o (Int.toNat b) (Int.toNat b)&&true) then rec (upd f b ((nth [] f b)++[(nth (eS,0,false,false,0,0,eS) d.2.2.1 0).2.2.2.2])) (Z9K (b+1)) else none else none else none else none else none else h f
def j69 (f:Int) (d:qG):(qR×Int)->(qR×Int->Res)->((qR->Res))->Res:=λv rec q=>j3r f d v.1 v.2 (λb g=>rec (b,g)) q
def j8j (f:Int) (d:qG) (n:Nat) (b:List qW) (g:Int) (h:qR->Res):Res:=Z1f (j69 f d) n (b,g) (h)
def j7D:Z1d Unit:=NdL 98 98 [.t 5 (pB 5),.R 9 y31 .O,.I 51,.I 52] [(5,y13,[.S,.S])] (λb d=>(b.1,b.2.2.1)) (λb v=>(v.1,b.2.1,v.2,())) (λd v=>((d.1.1,d.1.2),())) (λb d=>j69 b.2.1 d.1.2) λb d g=>((λf=>g (.exit 1) [(9,v1 y31 f .O)] []))
theorem jlo:CN 0 16058 Tryz.f298 j7D:=lK j9i [j4Y] oN ([],[]) [(1,[9],[])] ([],[]) λ_ _ _ _ _=>by kernel_rfl
def j3s (f:Int) (g:Int) (d:List qW) (b:Int) (rec:qR->Int->Res) (h:qR->Res):Res:=bif decide (b<g) then bif inb b (List.length d) then j9T (nth [] d b) f (Z9K (f+1)) λr=>bif inb b (List.length (upd d b r)) then bif (Z9o (Int.toNat b) (Int.toNat b)&&true) then rec (upd d b r) (Z9K (b+1)) else none else none else none else h d
def j6a (b:Int) (f:Int):(qR×Int)->(qR×Int->Res)->((qR->Res))->Res:=λv rec q=>j3s b f v.1 v.2 (λd g=>rec (d,g)) q
def j8k (b:Int) (f:Int) (n:Nat) (d:List qW) (g:Int) (h:qR->Res):Res:=Z1f (j6a b f) n (d,g) (h)
def jaU:Z1d Unit:=NdL 98 98 [.R 9 y31 .O,.I 11,.I 79,.I 80] [] (λb f=>(b.1,b.2.2.2.1)) (λb v=>(v.1,b.2.1,b.2.2.1,v.2,())) (λf v=>()) (λb f=>j6a b.2.1 b.2.2.1) λb f g=>((λd=>g (.exit 3) [(9,v1 y31 d .O)] []))
theorem jlp:CN 0 128502 Tryz.f298 jaU:=lK j9i [j4Y,j7D] oN ([],[]) [(3,[9],[])] ([],[]) λ_ _ _ _ _=>by kernel_rfl
def j6x (t:qB×qE×qL) (l:List qW) (d:qG) (b:qR->Int->Res):Res:=j5B l t d λj=>bif j then b [] 1 else j2T [t] d λr=>bif (r != 0) then b [] r else j0A l λg=>bif (d.1==2) then b [] 0 else bif (d.1==3) then j8j (nI (List.length g)) d Z1c g 0 λh=>b h 0 else bif (d.1==4) then j0j t d.2.2.2.2.1 λi=>j8k i (nI (List.length g)) Z1c g 0 λf=>b f 0 else b g 0
def jcJ:Sig Unit:=sg [.borrow y29 true,.borrow y31 false,.borrow y13 true] [false,false] [(y29,none),(y31,none),(y13,none)] [] λb g k=>j6x b.1 b.2.1 b.2.2.1 (λd f=>k [w1 y31 d .O,wI f] [] [])
theorem jnf:SO 298 jcJ:=fK (np:=0) j9i [j4Y,j7D,jaU] (oI 12 0 @jlq (oI 16058 1 @jlo (oI 128502 2 @jlp oN))) false Tryz.func298 λ_ _ _ _=>by delta j6x j4Y j6P j16 j7D j0Y jaU j8j j8k;refine gz j5B λ_ b=>gz j2T λ_ d=>gz j0A λ_ f=>gz j69 λ_ g=>gz j0j λ_ h=>gz j6a λ_ i=> ?_;rewrite [<-b,<-d,<-f,<-g,<-h,<-i];kernel_rfl
def jd9 (r:List qV) (g:qB×qE×qL) (h:List qV) (b:Bool->Res):Res:=j0V g r λd=>j1E d h λf=>b f
def jpm:Sig Unit:=sg [.look y3 true,.rptr y29,.rptr y3] [false] [(y3,none),(y29,none),(y3,none)] [] λb f k=>jd9 b.1 b.2.1 b.2.2.1 (λd=>k [wB d] [] [])
theorem jir:SO 237 jpm:=fK (np:=0) (Za6 jdh (Za6 j8F Zas)) [] oN false Tryz.func237 λ_ _ _ _=>by delta jd9 j22 j5M;refine gz j0V λ_ b=>gz j1E λ_ d=> ?_;rewrite [<-b,<-d];kernel_rfl
def j19 (s:List qW) (f:qT×List qV) (h:Int) (b:Int) (rec:Int->Res) (d:Unit->Res) (g:Int->Res):Res:=bif decide (b<h) then bif inb b (List.length s) then jd9 (nth [] s b) f.1 f.2 λr=>bif r then g b else rec (Z9K (b+1)) else none else d ()
def j3T (s:List qW) (f:qT×List qV) (b:Int):Int->(Int->Res)->((Unit->Res)×(Int->Res))->Res:=λv rec q=>j19 s f b v (λd=>rec (d)) q.1 q.2
def j9J (s:List qW) (f:qT×List qV) (g:Int) (n:Nat) (h:Int) (b:Unit->Res) (d:Int->Res):Res:=Z1f (j3T s f g) n (h) (b,d)
def j9e:Z1d Unit:=NdL 19 19 [.R 0 y31 .S,.c 1 237 [y29,y3] y36 [.S,.S,.S],.I 7,.I 8] [] (λb d=>(b.2.2.2.1)) (λb v=>(b.1,b.2.1,b.2.2.1,v,())) (λd v=>()) (λb d=>j3T b.1 b.2.1 b.2.2.1) λb d f=>((λ_=>f (.exit 0) [] []),(λg=>f .ret [(4,vI g)] []))
theorem jf9:CN 0 26 Tryz.f236 j9e:=lK (Za6 jir Zas) [] oN ([],[]) [(0,[],[])] ([4],[]) λ_ _ _ _ _=>by kernel_rfl
def j7v (s:List qW) (f:qT×List qV) (b:Int->Res):Res:=j9J s f (nI (List.length s)) Z1c 0 (λ_=>b (-1)) (λt=>b t)
def jgK:Sig Unit:=sg [.look y31 false,.rclos 237 [y29,y3]] [false] [(y31,none),(y36,none)] [] λb f k=>j7v b.1 b.2.1 (λd=>k [wI d] [] [])
theorem jgv:SO 236 jgK:=fK (np:=0) (Za6 jir Zas) [j9e] (oI 26 0 @jf9 oN) false Tryz.func236 λ_ _ _ _=>by kernel_rfl
def j1k (t:qB×qE×qL) (l:List qW) (b:List qV) (d:Int->Res):Res:=j7v l (t,b) λr=>d r
def j6Q:Sig Unit:=sg [.look y29 true,.look y31 false,.look y3 false] [false] [(y29,none),(y31,none),(y3,none)] [] λb f k=>j1k b.1 b.2.1 b.2.2.1 (λd=>k [wI d] [] [])
theorem jew:SO 177 j6Q:=fK (np:=0) (Za6 jgv Zas) [] oN false Tryz.func177 λ_ _ _ _=>by kernel_rfl
theorem jil:FS [(178,j8p),(232,j16),(238,j22),(294,j6N),(325,j8g)]:=(Za6 j8i (Za6 j5q (Za6 j8F (Za6 jgV (Za6 jiW Zas)))))
def j2B (l:List qW) (t:qB×qE×qL) (r:List qV) (b:Int) (rec:Int->Res) (d:Int->Res):Res:=bif decide (b<(nI (List.length l))) then bif inb b (List.length l) then j0V t (nth [] l b) λf=>j0V t r λg=>j4g f g λh=>bif h then rec (Z9K (b+1)) else d b else none else d b
def j4l (l:List qW) (t:qB×qE×qL) (r:List qV):Int->(Int->Res)->((Int->Res))->Res:=λv rec q=>j2B l t r v (λb=>rec (b)) q
def jcC (l:List qW) (t:qB×qE×qL) (r:List qV) (n:Nat) (b:Int) (d:Int->Res):Res:=Z1f (j4l l t r) n (b) (d)
def jc1:Z1d Unit:=NdL 35 35 [.R 1 y31 .S,.t 3 (pB 3),.t 5 (pB 5),.I 7] [(3,y29,[.S,.S]),(5,y3,[.S])] (λd b=>(d.2.1)) (λd v=>(d.1,v,())) (λb v=>((b.1.1,b.1.2),(b.2.1.1,b.2.1.2),())) (λd b=>j4l d.1 b.1.2 b.2.1.2) λd b g=>((λf=>g (.exit 0) [(1,v1 y31 d.1 .S),(5,pB 5),(7,vI f)] [(5,⟨y3,b.2.1.1,b.2.1.2,[.S]⟩)]))
theorem jmu:CN 0 28 Tryz.f299 jc1:=lK jil [] oN ([],[]) [(0,[1,5,7],[5])] ([],[]) λ_ _ _ _ _=>by delta j4l j2B j22 j6N;refine gz j0V λ_ b=>gz j4g λ_ d=> ?_;rewrite [<-b,<-d];kernel_rfl
def j2L (t:qB×qE×qL) (l:List qW) (r:List qV) (d:qR->Res):Res:=jcC l t r Z1c 0 λb=>j0A l λf=>j1e r λg=>j6d f b [g] λh=>d h
def jat:Sig Unit:=sg [.borrow y29 true,.borrow y31 false,.borrow y3 true] [false] [(y29,none),(y31,none),(y3,none)] [] λb f k=>j2L b.1 b.2.1 b.2.2.1 (λd=>k [w1 y31 d .O] [] [])
theorem jiq:SO 299 jat:=fK (np:=0) jil [jc1] (oI 28 0 @jmu oN) false Tryz.func299 λ_ _ _ _=>by delta j2L jc1 j16 j8p j8g jcC;refine gz j4l λ_ b=>gz j0A λ_ d=>gz j1e λ_ f=>gz j6d λ_ g=> ?_;rewrite [<-b,<-d,<-f,<-g];kernel_rfl
def j84 (t:qB×qE×qL) (l:List qW) (r:List qV) (b:qR->Int->Res):Res:=j0Z t l λd=>bif !d then b [] 1 else j3O t r λf=>bif !f then b [] 2 else j0V t r λg=>j1k t l g λh=>bif decide (h>=0) then b [] 3 else bif ((nI (List.length l))==60) then b [] 4 else j2L t l r λi=>b i 0
def jdE:Sig Unit:=sg [.borrow y29 true,.borrow y31 false,.borrow y3 true] [false,false] [(y29,none),(y31,none),(y3,none)] [] λb g k=>j84 b.1 b.2.1 b.2.2.1 (λd f=>k [w1 y31 d .O,wI f] [] [])
theorem joH:SO 253 jdE:=fK (np:=0) (Za6 jew (Za6 j8F (Za6 j7K (Za6 jex (Za6 jiq Zas))))) [] oN false Tryz.func253 λ_ _ _ _=>by delta j84 j2m j6R j22 j6Q jat;refine gz j0Z λ_ b=>gz j3O λ_ d=>gz j0V λ_ f=>gz j1k λ_ g=>gz j2L λ_ h=> ?_;rewrite [<-b,<-d,<-f,<-g,<-h];kernel_rfl
theorem jiZ:FS [(268,j47),(273,j8W),(284,j0Y)]:=(Za6 j6t (Za6 j8E (Za6 j4d Zas)))
def j34 (d:List qV) (f:qL) (g:Int) (t:qB×qE×qL) (b:Int) (rec:Int->Res) (j:Unit->Res) (h:Unit->Res):Res:=bif decide (b<g) then bif inb b (List.length f) then bif inb b (List.length d) then j1j (nth (0,0,eS) d b) λr=>bif !r then h () else bif inb b (List.length d) then j0j t (nth eS f b) λi=>bif inb i (List.length t.2.1) then bif ((nth (0,0,eS) d b).1 != (nth (eS,0,false,false,0,0,eS) t.2.1 i).2.1) then h () else rec (Z9K (b+1)) else none else none else none else none else j ()
def j5A (b:List qV) (d:qL) (f:Int) (t:qB×qE×qL):Int->(Int->Res)->((Unit->Res)×(Unit->Res))->Res:=λv rec q=>j34 b d f t v (λg=>rec (g)) q.1 q.2
def jdz (b:List qV) (d:qL) (f:Int) (t:qB×qE×qL) (n:Nat) (g:Int) (h:Unit->Res) (i:Unit->Res):Res:=Z1f (j5A b d f t) n (g) (h,i)
def jcY:Z1d Unit:=NdL 49 49 [.R 1 y3 .S,.t 2 (pB 2),.R 19 y0 .S,.I 20,.I 21] [(2,y29,[.S,.S])] (λb d=>(b.2.2.2.1)) (λb v=>(b.1,b.2.1,b.2.2.1,v,())) (λd v=>((d.1.1,d.1.2),())) (λb d=>j5A b.1 b.2.1 b.2.2.1 d.1.2) λb d f=>((λ_=>f (.exit 0) [] []),(λ_=>f .ret [(4,vB false)] []))
theorem jnG:CN 0 58 Tryz.f300 jcY:=lK jiZ [] oN ([],[]) [(0,[],[])] ([4],[]) λ_ _ _ _ _=>by delta j5A j34 j8W j0Y;refine gz j1j λ_ b=>gz j0j λ_ d=> ?_;rewrite [<-b,<-d];kernel_rfl
def j5z (t:qB×qE×qL) (b:List qV) (d:Bool->Res):Res:=j0X t λr=>bif !r then d false else bif ((nI (List.length b)) != (nI (List.length t.2.2))) then d false else jdz b t.2.2 (nI (List.length t.2.2)) t Z1c 0 (λ_=>d true) (λ_=>d false)
def jbB:Sig Unit:=sg [.look y29 true,.look y3 false] [false] [(y29,none),(y3,none)] [] λb f k=>j5z b.1 b.2.1 (λd=>k [wB d] [] [])
theorem jj7:SO 300 jbB:=fK (np:=0) jiZ [jcY] (oI 58 0 @jnG oN) false Tryz.func300 λ_ _ _ _=>by delta j5z j47 jcY jdz;refine gz j0X λ_ b=>gz j5A λ_ d=> ?_;rewrite [<-b,<-d];kernel_rfl
theorem jih:FS [(128,j5M),(177,j6Q),(232,j16),(238,j22),(251,j2m),(293,j6R),(299,jat),(300,jbB),(301,j54)]:=(Za6 jdh (Za6 jew (Za6 j5q (Za6 j8F (Za6 j7K (Za6 jex (Za6 jiq (Za6 jj7 (Za6 jce Zas)))))))))
def j6w (l:List qW) (b:List qV) (now:List qV) (t:qB×qE×qL) (d:Unit->Res) (f:Unit->Res):Res:=j1E now b λg=>bif !g then j1k t l now λh=>bif decide (h>=0) then f () else d () else d ()
def jbW:Z1d Unit:=Nd 61 61 [.R 1 y31 .S,.R 2 y3 .S,.t 4 (pB 4),.t 7 (pB 7),.R 10 y3 .O] [(4,y29,[.S,.S]),(7,y3,[.S])] λb d f=>j6w b.1 b.2.1 b.2.2.1 d.1.2 (λ_=>f .normal [(1,v1 y31 b.1 .S),(2,v1 y3 b.2.1 .S),(4,pB 4),(7,pB 7)] [(4,⟨y29,d.1.1,d.1.2,[.S,.S]⟩),(7,⟨y3,d.2.1.1,d.2.1.2,[.S]⟩)]) (λ_=>f .ret [(8,v1 y31 [] .O),(9,vI 3)] [])
theorem jmp:CN 0 30 Tryz.f254 jbW:=nK jih [] oN ([1,2,4,7],[4,7]) [] ([8,9],[]) λ_ _ _=>by delta j6w j5M j6Q;refine gz j1E λ_ b=>gz j1k λ_ d=> ?_;rewrite [<-b,<-d];kernel_rfl
def j85 (t:qB×qE×qL) (l:List qW) (b:List qV) (r:List qV) (d:qR->Int->Res):Res:=j0Z t l λg=>bif !g then d [] 1 else j3O t r λh=>bif !h then d [] 2 else j5z t b λi=>bif !i then d [] 5 else j1k t l b λj=>bif decide (j<0) then d [] 5 else j0V t r λk=>j6w l b k t (λ_=>j1k t l b λf=>j0A l λm=>j11 m f (Z9K (f+1)) λn=>j2L t n r λp=>d p 0) (λ_=>d [] 3)
def jdF:Sig Unit:=sg [.borrow y29 true,.borrow y31 false,.borrow y3 false,.borrow y3 true] [false,false] [(y29,none),(y31,none),(y3,none),(y3,none)] [] λb g k=>j85 b.1 b.2.1 b.2.2.1 b.2.2.2.1 (λd f=>k [w1 y31 d .O,wI f] [] [])
theorem joI:SO 254 jdF:=fK (np:=0) jih [jbW] (oI 30 0 @jmp oN) false Tryz.func254 λ_ _ _ _=>by delta j85 j2m j6R jbB j6Q j22 jbW j16 j54 jat;refine gz j0Z λ_ b=>gz j3O λ_ d=>gz j5z λ_ f=>gz j1k λ_ g=>gz j0V λ_ h=>gz j6w λ_ i=>gz j0A λ_ j=>gz j11 λ_ k=>gz j2L λ_ l=> ?_;rewrite [<-b,<-d,<-f,<-g,<-h,<-i,<-j,<-k,<-l];kernel_rfl
def j83 (t:qB×qE×qL) (l:List qW) (b:List qV) (d:qR->Int->Res):Res:=j0Z t l λr=>bif !r then d [] 1 else j5z t b λg=>bif !g then d [] 5 else j1k t l b λh=>bif decide (h<0) then d [] 5 else j1k t l b λf=>j0A l λi=>j11 i f (Z9K (f+1)) λj=>d j 0
def jdD:Sig Unit:=sg [.borrow y29 true,.borrow y31 false,.borrow y3 false] [false,false] [(y29,none),(y31,none),(y3,none)] [] λb g k=>j83 b.1 b.2.1 b.2.2.1 (λd f=>k [w1 y31 d .O,wI f] [] [])
theorem joG:SO 255 jdD:=fK (np:=0) (Za6 jew (Za6 j5q (Za6 j7K (Za6 jj7 (Za6 jce Zas))))) [] oN false Tryz.func255 λ_ _ _ _=>by delta j83 j2m jbB j6Q j16 j54;refine gz j0Z λ_ b=>gz j5z λ_ d=>gz j1k λ_ f=>gz j0A λ_ g=>gz j11 λ_ h=> ?_;rewrite [<-b,<-d,<-f,<-g,<-h];kernel_rfl
end
end Go.PI.G
