/-
  Program's code interpreted over typed values; printed texts; plain laws. No conditions.
-/
import Derived.Test.YtnemiodjnhfejaaGreatBOd
import Derived.Test.YtnemiodjnhfejaaGreatBOe
set_option linter.unusedVariables false
set_option maxRecDepth 100000
namespace Go.PI.G
noncomputable section
open Go Go.PI Go.Proofs
open Go.Code (pl pr)
def j0a (r:List qV) (b:qW->Res):Res:=bif lim (0+(List.length r)) then b r else none
def j1T:Sig Unit:=sg [.borrow y3 true] [true] [(y3,none)] [] λd f k=>j0a d.1 (λb=>k [⟨y3,true,b,[.O]⟩] [] [])
theorem j1Q:SO 115 j1T:=fK (np:=0) Zas [] oN false Tryz.func115 λ_ _ _ _=>by kernel_rfl
def j3Y (c:qB×Int×Bool×Bool×Int×Int×qB) (d:Int×Int×qB) (b:Bool->Res):Res:=bif (d.1==0) then j1k d λr=>bif r then b (!c.2.2.1) else b false else j1k d λf=>bif f then b (d.1==c.2.1) else b false
def j7T:Sig Unit:=sg [.look y7 true,.look y2 true] [false] [(y7,none),(y2,none)] [] λb f k=>j3Y b.1 b.2.1 (λd=>k [wB d] [] [])
theorem jeY:SO 281 j7T:=fK (np:=0) (Za6 j7d Zas) [] oN false Tryz.func281 λ_ _ _ _=>by delta j3Y ja6;refine gz j1k λ_ b=> ?_;rewrite [<-b];kernel_rfl
theorem jgH:FS [(227,j16),(281,j7T)]:=(Za6 j3i (Za6 jeY Zas))
def j4J (d:List qC) (f:Int) (r:List qV) (b:Int) (rec:Int->Res) (g:Unit->Res) (h:Unit->Res):Res:=bif decide (b<f) then bif inb b (List.length d) then bif inb b (List.length r) then j3Y (nth (eS,0,false,false,0,0,eS) d b) (nth (0,0,eS) r b) λi=>bif !i then h () else rec (Z9K (b+1)) else none else none else g ()
def j74 (b:List qC) (d:Int) (r:List qV):Int->(Int->Res)->((Unit->Res)×(Unit->Res))->Res:=λv rec q=>j4J b d r v (λf=>rec (f)) q.1 q.2
def jc4 (b:List qC) (d:Int) (r:List qV) (n:Nat) (f:Int) (g:Unit->Res) (h:Unit->Res):Res:=Z1f (j74 b d r) n (f) (g,h)
def jbj:Z1d Unit:=NdL 36 36 [.t 3 (pB 3),.R 20 y8 .S,.I 21,.I 22] [(3,y3,[.S])] (λb d=>(b.2.2.1)) (λb v=>(b.1,b.2.1,v,())) (λd v=>((d.1.1,d.1.2),())) (λb d=>j74 b.1 b.2.1 d.1.2) λb d f=>((λ_=>f (.exit 0) [] []),(λ_=>f .ret [(4,vB false)] []))
theorem jkK:CN 0 58 Tryz.f228 jbj:=lK jgH [] oN ([],[]) [(0,[],[])] ([4],[]) λ_ _ _ _ _=>by kernel_rfl
def j2i (t:qB×qE×qL) (r:List qV) (b:Bool->Res):Res:=j0v t λd=>bif !d then b false else bif ((nI (List.length r)) != (nI (List.length t.2.1))) then b false else jc4 t.2.1 (nI (List.length t.2.1)) r Z1c 0 (λ_=>b true) (λ_=>b false)
def j7r:Sig Unit:=sg [.look y29 true,.look y3 true] [false] [(y29,none),(y3,none)] [] λb f k=>j2i b.1 b.2.1 (λd=>k [wB d] [] [])
theorem jcO:SO 228 j7r:=fK (np:=0) jgH [jbj] (oI 58 0 @jkK oN) false Tryz.func228 λ_ _ _ _=>by delta j2i j16 jbj jc4;refine gz j0v λ_ b=>gz j74 λ_ d=> ?_;rewrite [<-b,<-d];kernel_rfl
def j3Z (f:qL) (g:Int) (t:qB×qE×qL) (r:List qV) (d:List qV) (b:Int) (rec:qW->Int->Res) (i:qW->Res):Res:=bif decide (b<g) then bif inb b (List.length f) then j0K t (nth eS f b) λh=>bif inb h (List.length r) then bif lim ((List.length d)+1) then rec (d++[nth (0,0,eS) r h]) (Z9K (b+1)) else none else none else none else i d
def j96 (d:qL) (f:Int) (t:qB×qE×qL) (r:List qV):(qW×Int)->(qW×Int->Res)->((qW->Res))->Res:=λv rec q=>j3Z d f t r v.1 v.2 (λb g=>rec (b,g)) q
def jfm (d:qL) (f:Int) (t:qB×qE×qL) (r:List qV) (n:Nat) (b:List qV) (g:Int) (h:qW->Res):Res:=Z1f (j96 d f t r) n (b,g) (h)
def jeg:Z1d Unit:=NdL 28 28 [.t 2 (pB 2),.t 3 (pB 3),.R 5 y3 .O,.R 10 y0 .S,.I 11,.I 12] [(2,y29,[.S,.S]),(3,y3,[.S])] (λb d=>(b.1,b.2.2.2.1)) (λb v=>(v.1,b.2.1,b.2.2.1,v.2,())) (λd v=>((d.1.1,d.1.2),(d.2.1.1,d.2.1.2),())) (λb d=>j96 b.2.1 b.2.2.1 d.1.2 d.2.1.2) λb d g=>((λf=>g (.exit 0) [(5,v1 y3 f .O)] []))
theorem jjV:CN 0 58 Tryz.f173 jeg:=lK (Za6 j5j Zas) [] oN ([],[]) [(0,[5],[])] ([],[]) λ_ _ _ _ _=>by kernel_rfl
def j0z (t:qB×qE×qL) (r:List qV) (d:qW->Res):Res:=jfm t.2.2 (nI (List.length t.2.2)) t r Z1c [] 0 λb=>d b
def j1j:Sig Unit:=sg [.borrow y29 true,.borrow y3 true] [false] [(y29,none),(y3,none)] [] λb f k=>j0z b.1 b.2.1 (λd=>k [w1 y3 d .O] [] [])
theorem j6z:SO 173 j1j:=fK (np:=0) (Za6 j5j Zas) [jeg] (oI 58 0 @jjV oN) false Tryz.func173 λ_ _ _ _=>by kernel_rfl
def j2X (a:List qV) (b:List qV) (i:Int) (rec:Int->Res) (d:Unit->Res) (f:Bool->Res):Res:=bif decide (i<(nI (List.length a))) then bif decide (i<(nI (List.length b))) then bif inb i (List.length a) then bif inb i (List.length b) then bif !(((nth (0,0,eS) a i).1==(nth (0,0,eS) b i).1)&&(((nth (0,0,eS) a i).2.1==(nth (0,0,eS) b i).2.1)&&(sEq (nth (0,0,eS) a i).2.2 (nth (0,0,eS) b i).2.2))) then bif inb i (List.length a) then bif inb i (List.length b) then j7y (nth (0,0,eS) a i) (nth (0,0,eS) b i) λr=>f r else none else none else rec (Z9K (i+1)) else none else none else d () else d ()
def j8d (a:List qV) (b:List qV):Int->(Int->Res)->((Unit->Res)×(Bool->Res))->Res:=λv rec q=>j2X a b v (λi=>rec (i)) q.1 q.2
def jdU (a:List qV) (b:List qV) (n:Nat) (i:Int) (d:Unit->Res) (f:Bool->Res):Res:=Z1f (j8d a b) n (i) (d,f)
def jdo:Z1d Unit:=NdL 41 41 [.R 0 y3 .S,.R 1 y3 .S,.I 5] [] (λb d=>(b.2.2.1)) (λb v=>(b.1,b.2.1,v,())) (λd v=>()) (λb d=>j8d b.1 b.2.1) λb d f=>((λ_=>f (.exit 0) [(0,v1 y3 b.1 .S),(1,v1 y3 b.2.1 .S)] []),(λg=>f .ret [(4,vB g)] []))
theorem jiH:CN 0 26 Tryz.f229 jdo:=lK (Za6 jeV Zas) [] oN ([],[]) [(0,[0,1],[])] ([4],[]) λ_ _ _ _ _=>by kernel_rfl
def j3S (a:List qV) (b:List qV) (d:Bool->Res):Res:=jdU a b Z1c 0 (λ_=>d (decide ((nI (List.length a))<(nI (List.length b))))) (λt=>d t)
def j5K:Sig Unit:=sg [.look y3 false,.look y3 false] [false] [(y3,none),(y3,none)] [] λb f k=>j3S b.1 b.2.1 (λd=>k [wB d] [] [])
theorem jeU:SO 229 j5K:=fK (np:=0) (Za6 jeV Zas) [jdo] (oI 26 0 @jiH oN) false Tryz.func229 λ_ _ _ _=>by kernel_rfl
theorem jg4:FS [(173,j1j),(227,j16),(228,j7r),(229,j5K)]:=(Za6 j6z (Za6 j3i (Za6 jcO (Za6 jeU Zas))))
def j2a (l:List qW) (d:List qW) (f:Int) (t:qB×qE×qL) (b:Int) (rec:Int->Res) (h:Unit->Res) (g:Unit->Res):Res:=bif decide (b<f) then bif inb b (List.length d) then j2i t (nth [] d b) λr=>bif !r then g () else bif decide (b>0) then bif inb (Z9K (b-1)) (List.length l) then j0z t (nth [] l (Z9K (b-1))) λi=>j0z t (nth [] d b) λj=>j3S i j λk=>bif !k then g () else rec (Z9K (b+1)) else none else rec (Z9K (b+1)) else none else h ()
def j3T (l:List qW) (b:List qW) (d:Int) (t:qB×qE×qL):Int->(Int->Res)->((Unit->Res)×(Unit->Res))->Res:=λv rec q=>j2a l b d t v (λf=>rec (f)) q.1 q.2
def jb7 (l:List qW) (b:List qW) (d:Int) (t:qB×qE×qL) (n:Nat) (f:Int) (g:Unit->Res) (h:Unit->Res):Res:=Z1f (j3T l b d t) n (f) (g,h)
def jat:Z1d Unit:=NdL 45 45 [.R 1 y31 .S,.t 2 (pB 2),.R 15 y31 .S,.I 16,.I 17] [(2,y29,[.S,.S])] (λb d=>(b.2.2.2.1)) (λb v=>(b.1,b.2.1,b.2.2.1,v,())) (λd v=>((d.1.1,d.1.2),())) (λb d=>j3T b.1 b.2.1 b.2.2.1 d.1.2) λb d f=>((λ_=>f (.exit 0) [] []),(λ_=>f .ret [(4,vB false)] []))
theorem jjP:CN 0 58 Tryz.f172 jat:=lK jg4 [] oN ([],[]) [(0,[],[])] ([4],[]) λ_ _ _ _ _=>by delta j3T j2a j7r j1j j5K;refine gz j2i λ_ b=>gz j0z λ_ d=>gz j3S λ_ f=> ?_;rewrite [<-b,<-d,<-f];kernel_rfl
def j0y (t:qB×qE×qL) (l:List qW) (b:Bool->Res):Res:=j0v t λr=>bif !r then b false else bif decide ((nI (List.length l))>60) then b false else jb7 l l (nI (List.length l)) t Z1c 0 (λ_=>b true) (λ_=>b false)
def j1i:Sig Unit:=sg [.look y29 true,.look y31 false] [false] [(y29,none),(y31,none)] [] λb f k=>j0y b.1 b.2.1 (λd=>k [wB d] [] [])
theorem j4d:SO 172 j1i:=fK (np:=0) jg4 [jat] (oI 58 0 @jjP oN) false Tryz.func172 λ_ _ _ _=>by delta j0y j16 jat jb7;refine gz j0v λ_ b=>gz j3T λ_ d=> ?_;rewrite [<-b,<-d];kernel_rfl
def j34 (f:List qW) (h:Int) (b:List qW) (d:Int) (rec:qR->Int->Res) (g:qR->Res):Res:=bif decide (d<h) then bif inb d (List.length f) then j0a (nth [] f d) λr=>bif lim ((List.length b)+1) then rec (b++[r]) (Z9K (d+1)) else none else none else g b
def j8g (d:List qW) (f:Int):(qR×Int)->(qR×Int->Res)->((qR->Res))->Res:=λv rec q=>j34 d f v.1 v.2 (λb g=>rec (b,g)) q
def jdX (f:List qW) (g:Int) (n:Nat) (b:List qW) (h:Int) (d:qR->Res):Res:=Z1f (j8g f g) n (b,h) (d)
def jdr:Z1d Unit:=NdL 20 20 [.R 3 y31 .O,.R 7 y31 .S,.I 8,.I 9] [] (λb f=>(b.1,b.2.2.2.1)) (λb v=>(v.1,b.2.1,b.2.2.1,v.2,())) (λf v=>()) (λb f=>j8g b.2.1 b.2.2.1) λb f g=>((λd=>g (.exit 0) [(3,v1 y31 d .O)] []))
theorem jiR:CN 0 58 Tryz.f244 jdr:=lK (Za6 j1Q Zas) [] oN ([],[]) [(0,[3],[])] ([],[]) λ_ _ _ _ _=>by kernel_rfl
def j60 (l:List qW) (d:qR->Res):Res:=jdX l (nI (List.length l)) Z1c [] 0 λb=>d b
def j7S:Sig Unit:=sg [.borrow y31 false] [false] [(y31,none)] [] λd f k=>j60 d.1 (λb=>k [w1 y31 b .O] [] [])
theorem jeX:SO 244 j7S:=fK (np:=0) (Za6 j1Q Zas) [jdr] (oI 58 0 @jiR oN) false Tryz.func244 λ_ _ _ _=>by kernel_rfl
def j1v (a:List qV) (b:List qV) (f:Int) (d:Int) (rec:Int->Res) (g:Unit->Res) (h:Unit->Res):Res:=bif decide (d<f) then bif inb d (List.length a) then bif inb d (List.length b) then bif !(((nth (0,0,eS) a d).1==(nth (0,0,eS) b d).1)&&(((nth (0,0,eS) a d).2.1==(nth (0,0,eS) b d).2.1)&&(sEq (nth (0,0,eS) a d).2.2 (nth (0,0,eS) b d).2.2))) then h () else rec (Z9K (d+1)) else none else none else g ()
def j62 (a:List qV) (b:List qV) (d:Int):Int->(Int->Res)->((Unit->Res)×(Unit->Res))->Res:=λv rec q=>j1v a b d v (λf=>rec (f)) q.1 q.2
def jaE (a:List qV) (b:List qV) (d:Int) (n:Nat) (f:Int) (g:Unit->Res) (h:Unit->Res):Res:=Z1f (j62 a b d) n (f) (g,h)
def jax:Z1d Unit:=NdL 26 26 [.R 0 y3 .S,.R 1 y3 .S,.I 12,.I 13] [] (λb d=>(b.2.2.2.1)) (λb v=>(b.1,b.2.1,b.2.2.1,v,())) (λd v=>()) (λb d=>j62 b.1 b.2.1 b.2.2.1) λb d f=>((λ_=>f (.exit 0) [] []),(λ_=>f .ret [(4,vB false)] []))
theorem jfP:CN 0 58 Tryz.f126 jax:=lK Zas [] oN ([],[]) [(0,[],[])] ([4],[]) λ_ _ _ _ _=>by kernel_rfl
def j2c (a:List qV) (b:List qV) (d:Bool->Res):Res:=bif ((nI (List.length a)) != (nI (List.length b))) then d false else jaE a b (nI (List.length a)) Z1c 0 (λ_=>d true) (λ_=>d false)
def j4B:Sig Unit:=sg [.look y3 false,.look y3 false] [false] [(y3,none),(y3,none)] [] λb f k=>j2c b.1 b.2.1 (λd=>k [wB d] [] [])
theorem jbs:SO 126 j4B:=fK (np:=0) Zas [jax] (oI 58 0 @jfP oN) false Tryz.func126 λ_ _ _ _=>by kernel_rfl
theorem jgG:FS [(126,j4B),(172,j1i),(173,j1j)]:=(Za6 jbs (Za6 j4d (Za6 j6z Zas)))
def j2C (f:List qV) (d:List qW) (g:Int) (t:qB×qE×qL) (b:Int) (rec:Int->Res) (h:Unit->Res) (i:Int->Res):Res:=bif decide (b<g) then bif inb b (List.length d) then j0z t (nth [] d b) λr=>j2c r f λj=>bif j then i b else rec (Z9K (b+1)) else none else h ()
def j4I (b:List qV) (d:List qW) (f:Int) (t:qB×qE×qL):Int->(Int->Res)->((Unit->Res)×(Int->Res))->Res:=λv rec q=>j2C b d f t v (λg=>rec (g)) q.1 q.2
def jc3 (b:List qV) (d:List qW) (f:Int) (t:qB×qE×qL) (n:Nat) (g:Int) (h:Unit->Res) (i:Int->Res):Res:=Z1f (j4I b d f t) n (g) (h,i)
def jbi:Z1d Unit:=NdL 27 27 [.R 2 y3 .S,.t 3 (pB 3),.R 13 y31 .S,.I 14,.I 15] [(3,y29,[.S,.S])] (λb d=>(b.2.2.2.1)) (λb v=>(b.1,b.2.1,b.2.2.1,v,())) (λd v=>((d.1.1,d.1.2),())) (λb d=>j4I b.1 b.2.1 b.2.2.1 d.1.2) λb d f=>((λ_=>f (.exit 0) [] []),(λg=>f .ret [(6,vI g)] []))
theorem jkJ:CN 0 58 Tryz.f114 jbi:=lK jgG [] oN ([],[]) [(0,[],[])] ([6],[]) λ_ _ _ _ _=>by delta j4I j2C j1j j4B;refine gz j0z λ_ b=>gz j2c λ_ d=> ?_;rewrite [<-b,<-d];kernel_rfl
def j17 (t:qB×qE×qL) (l:List qW) (d:List qV) (b:Int->Res):Res:=j0y t l λr=>bif !r then b (-1) else jc3 d l (nI (List.length l)) t Z1c 0 (λ_=>b (-1)) (λf=>b f)
def j7q:Sig Unit:=sg [.look y29 true,.look y31 false,.look y3 false] [false] [(y29,none),(y31,none),(y3,none)] [] λb f k=>j17 b.1 b.2.1 b.2.2.1 (λd=>k [wI d] [] [])
theorem j9B:SO 114 j7q:=fK (np:=0) jgG [jbi] (oI 58 0 @jkJ oN) false Tryz.func114 λ_ _ _ _=>by delta j17 j1i jbi jc3;refine gz j0y λ_ b=>gz j4I λ_ d=> ?_;rewrite [<-b,<-d];kernel_rfl
theorem jbH:FS [(115,j1T),(173,j1j),(229,j5K)]:=(Za6 j1Q (Za6 j6z (Za6 jeU Zas)))
def j61 (b:List qW) (done:Bool) (t:qB×qE×qL) (r:List qV) (x:List qV) (d:qR->Bool->Res):Res:=bif !done then j0z t r λf=>j0z t x λg=>j3S f g λh=>bif h then j0a r λi=>bif lim ((List.length b)+1) then d (b++[i]) true else none else d b done else d b done
def j79:Z1d Unit:=Nd 48 48 [.t 3 (pB 3),.t 5 (pB 5),.R 7 y31 .O,.B 8,.t 10 (pB 10),.R 12 y31 .S,.I 13,.I 14] [(3,y29,[.S,.S]),(5,y3,[.S]),(10,y3,[.S])] λg b h=>j61 g.1 g.2.1 b.1.2 b.2.1.2 b.2.2.1.2 (λf d=>h .normal [(3,pB 3),(5,pB 5),(7,v1 y31 f .O),(8,vB d),(10,pB 10),(12,v1 y31 g.2.2.1 .S),(13,vI g.2.2.2.1),(14,vI g.2.2.2.2.1)] [(3,⟨y29,b.1.1,b.1.2,[.S,.S]⟩),(5,⟨y3,b.2.1.1,b.2.1.2,[.S]⟩),(10,⟨y3,b.2.2.1.1,b.2.2.1.2,[.S]⟩)])
theorem jjX:CN 0 15666 Tryz.f312 j79:=nK jbH [] oN ([3,5,7,8,10,12,13,14],[3,5,10]) [] ([],[]) λ_ _ _=>by delta j61 j1j j5K j1T;refine gz j0z λ_ b=>gz j3S λ_ d=>gz j0a λ_ f=> ?_;rewrite [<-b,<-d,<-f];kernel_rfl
def j2b (g:List qW) (i:Int) (t:qB×qE×qL) (r:List qV) (h:List qW) (done:Bool) (b:Int) (rec:qR->Bool->Int->Res) (j:qR->Bool->Res):Res:=bif decide (b<i) then bif inb b (List.length g) then j61 h done t r (nth [] g b) λd f=>j0a (nth [] g b) λk=>bif lim ((List.length d)+1) then rec (d++[k]) f (Z9K (b+1)) else none else none else j h done
def j40 (d:List qW) (f:Int) (t:qB×qE×qL) (r:List qV):(qR×Bool×Int)->(qR×Bool×Int->Res)->((qR->Bool->Res))->Res:=λv rec q=>j2b d f t r v.1 v.2.1 v.2.2 (λb done g=>rec (b,done,g)) q
def jbb (d:List qW) (f:Int) (t:qB×qE×qL) (r:List qV) (n:Nat) (b:List qW) (done:Bool) (g:Int) (h:qR->Bool->Res):Res:=Z1f (j40 d f t r) n (b,done,g) (h)
def jaw:Z1d Unit:=NdL 48 48 [.t 3 (pB 3),.t 5 (pB 5),.R 7 y31 .O,.B 8,.R 12 y31 .S,.I 13,.I 14] [(3,y29,[.S,.S]),(5,y3,[.S])] (λd b=>(d.1,d.2.1,d.2.2.2.2.1)) (λd v=>(v.1,v.2.1,d.2.2.1,d.2.2.2.1,v.2.2,())) (λb v=>((b.1.1,b.1.2),(b.2.1.1,b.2.1.2),())) (λd b=>j40 d.2.2.1 d.2.2.2.1 b.1.2 b.2.1.2) λd b h=>((λg f=>h (.exit 0) [(5,pB 5),(7,v1 y31 g .O),(8,vB f)] [(5,⟨y3,b.2.1.1,b.2.1.2,[.S]⟩)]))
theorem jjW:CN 0 122 Tryz.f312 jaw:=lK jbH [j79] (oI 114 0 @jjX oN) ([],[]) [(0,[5,7,8],[5])] ([],[]) λ_ _ _ _ _=>by delta j40 j2b j79 j1T;refine gz j61 λ_ b=>gz j0a λ_ d=> ?_;rewrite [<-b,<-d];kernel_rfl
def j3h (t:qB×qE×qL) (l:List qW) (r:List qV) (d:qR->Res):Res:=jbb l (nI (List.length l)) t r Z1c [] false 0 λb done=>bif !done then j0a r λf=>bif lim ((List.length b)+1) then d (b++[f]) else none else d b
def jbZ:Sig Unit:=sg [.borrow y29 true,.borrow y31 false,.borrow y3 true] [false] [(y29,none),(y31,none),(y3,none)] [] λb f k=>j3h b.1 b.2.1 b.2.2.1 (λd=>k [w1 y31 d .O] [] [])
theorem jgd:SO 312 jbZ:=fK (np:=0) jbH [j79,jaw] (oI 122 1 @jjW oN) false Tryz.func312 λ_ _ _ _=>by delta j3h jaw j1T jbb;refine gz j40 λ_ b=>gz j0a λ_ d=> ?_;rewrite [<-b,<-d];kernel_rfl
def j6N (t:qB×qE×qL) (l:List qW) (r:List qV) (b:qR->Int->Res):Res:=j0y t l λd=>bif !d then b [] 1 else j2i t r λf=>bif !f then b [] 2 else j0z t r λg=>j17 t l g λh=>bif decide (h>=0) then b [] 3 else bif ((nI (List.length l))==60) then b [] 4 else j3h t l r λi=>b i 0
def jgq:Sig Unit:=sg [.borrow y29 true,.borrow y31 false,.borrow y3 true] [false,false] [(y29,none),(y31,none),(y3,none)] [] λb g k=>j6N b.1 b.2.1 b.2.2.1 (λd f=>k [w1 y31 d .O,wI f] [] [])
theorem jlG:SO 288 jgq:=fK (np:=0) (Za6 j9B (Za6 j4d (Za6 j6z (Za6 jcO (Za6 jgd Zas))))) [] oN false Tryz.func288 λ_ _ _ _=>by delta j6N j1i j7r j1j j7q jbZ;refine gz j0y λ_ b=>gz j2i λ_ d=>gz j0z λ_ f=>gz j17 λ_ g=>gz j3h λ_ h=> ?_;rewrite [<-b,<-d,<-f,<-g,<-h];kernel_rfl
theorem jgE:FS [(227,j16),(230,j2p),(281,j7T)]:=(Za6 j3i (Za6 j5j (Za6 jeY Zas)))
def j2B (d:List qV) (f:qL) (g:Int) (t:qB×qE×qL) (b:Int) (rec:Int->Res) (h:Unit->Res) (i:Unit->Res):Res:=bif decide (b<g) then bif inb b (List.length f) then bif inb b (List.length d) then j0K t (nth eS f b) λr=>bif inb r (List.length t.2.1) then j3Y (nth (eS,0,false,false,0,0,eS) t.2.1 r) (nth (0,0,eS) d b) λj=>bif !j then i () else rec (Z9K (b+1)) else none else none else none else h ()
def j4H (b:List qV) (d:qL) (f:Int) (t:qB×qE×qL):Int->(Int->Res)->((Unit->Res)×(Unit->Res))->Res:=λv rec q=>j2B b d f t v (λg=>rec (g)) q.1 q.2
def jc2 (b:List qV) (d:qL) (f:Int) (t:qB×qE×qL) (n:Nat) (g:Int) (h:Unit->Res) (i:Unit->Res):Res:=Z1f (j4H b d f t) n (g) (h,i)
def jbg:Z1d Unit:=NdL 40 40 [.R 1 y3 .S,.t 2 (pB 2),.R 19 y0 .S,.I 20,.I 21] [(2,y29,[.S,.S])] (λb d=>(b.2.2.2.1)) (λb v=>(b.1,b.2.1,b.2.2.1,v,())) (λd v=>((d.1.1,d.1.2),())) (λb d=>j4H b.1 b.2.1 b.2.2.1 d.1.2) λb d f=>((λ_=>f (.exit 0) [] []),(λ_=>f .ret [(4,vB false)] []))
theorem jkH:CN 0 58 Tryz.f313 jbg:=lK jgE [] oN ([],[]) [(0,[],[])] ([4],[]) λ_ _ _ _ _=>by delta j4H j2B j2p j7T;refine gz j0K λ_ b=>gz j3Y λ_ d=> ?_;rewrite [<-b,<-d];kernel_rfl
def j4G (t:qB×qE×qL) (b:List qV) (d:Bool->Res):Res:=j0v t λr=>bif !r then d false else bif ((nI (List.length b)) != (nI (List.length t.2.2))) then d false else jc2 b t.2.2 (nI (List.length t.2.2)) t Z1c 0 (λ_=>d true) (λ_=>d false)
def jde:Sig Unit:=sg [.look y29 true,.look y3 false] [false] [(y29,none),(y3,none)] [] λb f k=>j4G b.1 b.2.1 (λd=>k [wB d] [] [])
theorem jgX:SO 313 jde:=fK (np:=0) jgE [jbg] (oI 58 0 @jkH oN) false Tryz.func313 λ_ _ _ _=>by delta j4G j16 jbg jc2;refine gz j0v λ_ b=>gz j4H λ_ d=> ?_;rewrite [<-b,<-d];kernel_rfl
def j1G (f:Int) (h:List qW) (g:Int) (d:List qW) (b:Int) (rec:qR->Int->Res) (i:qR->Res):Res:=bif decide (b<g) then bif inb b (List.length h) then bif (b != f) then j0a (nth [] h b) λr=>bif lim ((List.length d)+1) then rec (d++[r]) (Z9K (b+1)) else none else rec d (Z9K (b+1)) else none else i d
def j6o (b:Int) (h:List qW) (f:Int):(qR×Int)->(qR×Int->Res)->((qR->Res))->Res:=λv rec q=>j1G b h f v.1 v.2 (λd g=>rec (d,g)) q
def jbC (b:Int) (i:List qW) (f:Int) (n:Nat) (d:List qW) (g:Int) (h:qR->Res):Res:=Z1f (j6o b i f) n (d,g) (h)
def jaF:Z1d Unit:=NdL 26 26 [.I 1,.R 5 y31 .O,.R 9 y31 .S,.I 10,.I 11] [] (λb f=>(b.2.1,b.2.2.2.2.1)) (λb v=>(b.1,v.1,b.2.2.1,b.2.2.2.1,v.2,())) (λf v=>()) (λb f=>j6o b.1 b.2.2.1 b.2.2.2.1) λb f g=>((λd=>g (.exit 0) [(5,v1 y31 d .O)] []))
theorem jgA:CN 0 58 Tryz.f314 jaF:=lK (Za6 j1Q Zas) [] oN ([],[]) [(0,[5],[])] ([],[]) λ_ _ _ _ _=>by kernel_rfl
def j1F (l:List qW) (b:Int) (f:qR->Res):Res:=jbC b l (nI (List.length l)) Z1c [] 0 λd=>f d
def j8b:Sig Unit:=sg [.borrow y31 false,.borrow tI false] [false] [(y31,none),(tI,none)] [] λb f k=>j1F b.1 b.2.1 (λd=>k [w1 y31 d .O] [] [])
theorem jch:SO 314 j8b:=fK (np:=0) (Za6 j1Q Zas) [jaF] (oI 58 0 @jgA oN) false Tryz.func314 λ_ _ _ _=>by kernel_rfl
def j6O (t:qB×qE×qL) (l:List qW) (d:List qV) (r:List qV) (b:qR->Int->Res):Res:=j0y t l λh=>bif !h then b [] 1 else j2i t r λi=>bif !i then b [] 2 else j17 t l d λf=>j4G t d λj=>bif !j then b [] 5 else bif decide (f<0) then b [] 5 else j1F l f λg=>j0z t r λk=>j17 t g k λm=>bif decide (m>=0) then b [] 3 else j3h t g r λn=>b n 0
def jgr:Sig Unit:=sg [.borrow y29 true,.borrow y31 false,.borrow y3 false,.borrow y3 true] [false,false] [(y29,none),(y31,none),(y3,none),(y3,none)] [] λb g k=>j6O b.1 b.2.1 b.2.2.1 b.2.2.2.1 (λd f=>k [w1 y31 d .O,wI f] [] [])
theorem jlH:SO 289 jgr:=fK (np:=0) (Za6 j9B (Za6 j4d (Za6 j6z (Za6 jcO (Za6 jgd (Za6 jgX (Za6 jch Zas))))))) [] oN false Tryz.func289 λ_ _ _ _=>by delta j6O j1i j7r j7q jde j8b j1j jbZ;refine gz j0y λ_ b=>gz j2i λ_ d=>gz j17 λ_ f=>gz j4G λ_ g=>gz j1F λ_ h=>gz j0z λ_ i=>gz j3h λ_ j=> ?_;rewrite [<-b,<-d,<-f,<-g,<-h,<-i,<-j];kernel_rfl
def j6M (t:qB×qE×qL) (l:List qW) (b:List qV) (d:qR->Int->Res):Res:=j0y t l λr=>bif !r then d [] 1 else j17 t l b λf=>j4G t b λg=>bif !g then d [] 5 else bif decide (f<0) then d [] 5 else j1F l f λh=>d h 0
def jgp:Sig Unit:=sg [.borrow y29 true,.borrow y31 false,.borrow y3 false] [false,false] [(y29,none),(y31,none),(y3,none)] [] λb g k=>j6M b.1 b.2.1 b.2.2.1 (λd f=>k [w1 y31 d .O,wI f] [] [])
theorem jlF:SO 290 jgp:=fK (np:=0) (Za6 j9B (Za6 j4d (Za6 jgX (Za6 jch Zas)))) [] oN false Tryz.func290 λ_ _ _ _=>by delta j6M j1i j7q jde j8b;refine gz j0y λ_ b=>gz j17 λ_ d=>gz j4G λ_ f=>gz j1F λ_ g=> ?_;rewrite [<-b,<-d,<-f,<-g];kernel_rfl
theorem j5h:FS [(172,j1i),(210,j3Q),(230,j2p),(287,j4A)]:=(Za6 j4d (Za6 jcM (Za6 j5j (Za6 jdA Zas))))
def j4K (l:List qW) (t:qB×qE×qL) (d:qG) (b:Bool->Res):Res:=j0y t l λr=>bif !r then b true else j2h d λf=>bif !f then b true else bif sNe d.2.1 t.1 then b true else b (d.1==1)
def j2e:Z1d Unit:=Nd 106 106 [.R 1 y31 .S,.t 3 (pB 3),.t 5 (pB 5)] [(3,y29,[.S,.S]),(5,y13,[.S,.S])] λf b g=>j4K f.1 b.1.2 b.2.1.2 (λd=>g .normal [(1,v1 y31 f.1 .S),(3,pB 3),(5,pB 5),(37,vB d)] [(3,⟨y29,b.1.1,b.1.2,[.S,.S]⟩),(5,⟨y13,b.2.1.1,b.2.1.2,[.S,.S]⟩)])
theorem jiK:CN 0 12 Tryz.f291 j2e:=nK j5h [] oN ([1,3,5,37],[3,5]) [] ([],[]) λ_ _ _=>by delta j4K j1i j3Q;refine gz j0y λ_ b=>gz j2h λ_ d=> ?_;rewrite [<-b,<-d];kernel_rfl
def j0C (g:Int) (f:List qV) (h:Int) (d:qG) (b:Int) (x:List qV) (rec:Int->qW->Res) (i:qW->Res):Res:=bif decide (b<h) then bif inb b (List.length f) then bif (d.1 != 4) then bif lim ((List.length x)+1) then rec (Z9K (b+1)) (x++[nth (0,0,eS) f b]) else none else bif (b != g) then bif lim ((List.length x)+1) then rec (Z9K (b+1)) (x++[nth (0,0,eS) f b]) else none else rec (Z9K (b+1)) x else none else i x
def j2Y (b:Int) (f:List qV) (g:Int) (d:qG):(Int×qW)->(Int×qW->Res)->((qW->Res))->Res:=λv rec q=>j0C b f g d v.1 v.2 (λh x=>rec (h,x)) q
def j75 (b:Int) (f:List qV) (g:Int) (d:qG) (n:Nat) (h:Int) (x:List qV) (i:qW->Res):Res:=Z1f (j2Y b f g d) n (h,x) (i)
def j45:Z1d Unit:=NdL 106 106 [.t 5 (pB 5),.R 10 y31 .O,.I 11,.t 14 (pB 14),.R 54 y31 .S,.I 55,.I 56,.R 62 y3 .S,.I 63,.I 64] [(5,y13,[.S,.S]),(14,y3,[.O])] (λb d=>(b.2.2.2.2.2.2.2.1,d.2.1.2)) (λb v=>(b.1,b.2.1,b.2.2.1,b.2.2.2.1,b.2.2.2.2.1,b.2.2.2.2.2.1,b.2.2.2.2.2.2.1,v.1,())) (λd v=>((d.1.1,d.1.2),(d.2.1.1,v.2),())) (λb d=>j2Y b.2.1 b.2.2.2.2.2.1 b.2.2.2.2.2.2.1 d.1.2) λb d f=>((λg=>f (.exit 2) [(5,pB 5),(10,v1 y31 b.1 .O),(11,vI b.2.1),(14,pB 14),(54,v1 y31 b.2.2.1 .S),(55,vI b.2.2.2.1),(56,vI b.2.2.2.2.1)] [(5,⟨y13,d.1.1,d.1.2,[.S,.S]⟩),(14,⟨y3,d.2.1.1,g,[.O]⟩)]))
theorem jiI:CN 0 1042842 Tryz.f291 j45:=lK j5h [j2e] oN ([],[]) [(2,[5,10,11,14,54,55,56],[5,14])] ([],[]) λ_ _ _ _ _=>by kernel_rfl
def j76 (b:Bool) (d:qG) (x:List qV) (f:qW->Res):Res:=bif b then bif inb 0 (List.length d.2.2.1) then bif lim ((List.length x)+1) then f (x++[(nth (eS,0,false,false,0,0,eS) d.2.2.1 0).2.2.2.2]) else none else none else f x
def j6t:Z1d Unit:=Nd 106 106 [.t 5 (pB 5),.R 10 y31 .O,.I 11,.t 14 (pB 14),.R 54 y31 .S,.I 55,.I 56,.B 86] [(5,y13,[.S,.S]),(14,y3,[.O])] λb d f=>j76 b.2.2.2.2.2.1 d.1.2 d.2.1.2 (λg=>f .normal [(5,pB 5),(10,v1 y31 b.1 .O),(11,vI b.2.1),(14,pB 14),(54,v1 y31 b.2.2.1 .S),(55,vI b.2.2.2.1),(56,vI b.2.2.2.2.1)] [(5,⟨y13,d.1.1,d.1.2,[.S,.S]⟩),(14,⟨y3,d.2.1.1,g,[.O]⟩)])
theorem jiL:CN 0 1042845 Tryz.f291 j6t:=nK j5h [j2e,j45] oN ([5,10,11,14,54,55,56],[5,14]) [] ([],[]) λ_ _ _=>by kernel_rfl
def j1M (h:Int) (g:List qW) (i:Int) (d:qG) (f:List qW) (b:Int) (rec:qR->Int->Res) (j:qR->Res):Res:=bif decide (b<i) then bif inb b (List.length g) then j75 h (nth [] g b) (nI (List.length (nth [] g b))) d Z1c 0 [] λx=>j76 (d.1==3) d x λk=>bif (d.1 != 2) then bif lim ((List.length f)+1) then rec (f++[k]) (Z9K (b+1)) else none else rec f (Z9K (b+1)) else none else j f
def j2Z (b:Int) (g:List qW) (h:Int) (d:qG):(qR×Int)->(qR×Int->Res)->((qR->Res))->Res:=λv rec q=>j1M b g h d v.1 v.2 (λf i=>rec (f,i)) q
def jae (b:Int) (g:List qW) (h:Int) (d:qG) (n:Nat) (f:List qW) (i:Int) (j:qR->Res):Res:=Z1f (j2Z b g h d) n (f,i) (j)
def j9i:Z1d Unit:=NdL 106 106 [.t 5 (pB 5),.R 10 y31 .O,.I 11,.R 54 y31 .S,.I 55,.I 56] [(5,y13,[.S,.S])] (λb d=>(b.1,b.2.2.2.2.1)) (λb v=>(v.1,b.2.1,b.2.2.1,b.2.2.2.1,v.2,())) (λd v=>((d.1.1,d.1.2),())) (λb d=>j2Z b.2.1 b.2.2.1 b.2.2.2.1 d.1.2) λb d g=>((λf=>g (.exit 0) [(10,v1 y31 f .O)] []))
theorem jiJ:CN 0 1018 Tryz.f291 j9i:=lK j5h [j2e,j45,j6t] (oI 922 1 @jiI (oI 925 2 @jiL oN)) ([],[]) [(0,[10],[])] ([],[]) λ_ _ _ _ _=>by delta j2Z j1M j45 j6t j75;refine gz j2Y λ_ b=>gz j76 λ_ d=> ?_;rewrite [<-b,<-d];kernel_rfl
def j5W (t:qB×qE×qL) (l:List qW) (d:qG) (b:qR->Int->Res):Res:=j4K l t d λi=>bif i then b [] 1 else j1U [t] d λr g=>bif (g != 0) then b [] g else j0K t d.2.2.2.2.1 λh=>jae h l (nI (List.length l)) d Z1c [] 0 λf=>b f 0
def jfh:Sig Unit:=sg [.borrow y29 true,.borrow y31 false,.borrow y13 true] [false,false] [(y29,none),(y31,none),(y13,none)] [] λb g k=>j5W b.1 b.2.1 b.2.2.1 (λd f=>k [w1 y31 d .O,wI f] [] [])
theorem jkm:SO 291 jfh:=fK (np:=0) j5h [j2e,j45,j6t,j9i] (oI 12 0 @jiK (oI 1018 3 @jiJ oN)) false Tryz.func291 λ_ _ _ _=>by delta j5W j2e j4A j2p j9i jae;refine gz j4K λ_ b=>gz j1U λ_ d=>gz j0K λ_ f=>gz j2Z λ_ g=> ?_;rewrite [<-b,<-d,<-f,<-g];kernel_rfl
def j0t (l:List qV) (b:qW->Res):Res:=bif lim (0+(List.length l)) then b l else none
def j4z:Sig Unit:=sg [.borrow y3 false] [false] [(y3,none)] [] λd f k=>j0t d.1 (λb=>k [w1 y3 b .O] [] [])
theorem j4j:SO 178 j4z:=fK (np:=0) Zas [] oN false Tryz.func178 λ_ _ _ _=>by kernel_rfl
def jbo (c:qB×Int×Bool×Bool×Int×Int×qB) (d:Int×Int×qB) (b:Bool->Res):Res:=j15 d λr=>bif r then bif (d.1==c.2.1) then b true else bif (d.1==0) then b (!c.2.2.1) else b false else b false
def jmd:Sig Unit:=sg [.look y7 true,.look y2 true] [false] [(y7,none),(y2,none)] [] λb f k=>jbo b.1 b.2.1 (λd=>k [wB d] [] [])
theorem jga:SO 315 jmd:=fK (np:=0) (Za6 j7a Zas) [] oN false Tryz.func315 λ_ _ _ _=>by kernel_rfl
def j4x (d:List qV) (f:Int) (t:qB×qE×qL) (b:Int) (rec:Int->Res) (g:Unit->Res) (h:Unit->Res):Res:=bif decide (b<f) then bif inb b (List.length d) then bif inb b (List.length t.2.1) then jbo (nth (eS,0,false,false,0,0,eS) t.2.1 b) (nth (0,0,eS) d b) λr=>bif !r then h () else rec (Z9K (b+1)) else none else none else g ()
def j9O (b:List qV) (d:Int) (t:qB×qE×qL):Int->(Int->Res)->((Unit->Res)×(Unit->Res))->Res:=λv rec q=>j4x b d t v (λf=>rec (f)) q.1 q.2
def jgi (b:List qV) (d:Int) (t:qB×qE×qL) (n:Nat) (f:Int) (g:Unit->Res) (h:Unit->Res):Res:=Z1f (j9O b d t) n (f) (g,h)
def jfv:Z1d Unit:=NdL 31 31 [.t 2 (pB 2),.R 15 y3 .S,.I 16,.I 17] [(2,y29,[.S,.S])] (λb d=>(b.2.2.1)) (λb v=>(b.1,b.2.1,v,())) (λd v=>((d.1.1,d.1.2),())) (λb d=>j9O b.1 b.2.1 d.1.2) λb d f=>((λ_=>f (.exit 0) [] []),(λ_=>f .ret [(4,vB false)] []))
theorem jkD:CN 0 58 Tryz.f293 jfv:=lK (Za6 jga Zas) [] oN ([],[]) [(0,[],[])] ([4],[]) λ_ _ _ _ _=>by kernel_rfl
def j39 (t:qB×qE×qL) (r:List qV) (b:Bool->Res):Res:=bif ((nI (List.length r)) != (nI (List.length t.2.1))) then b false else jgi r (nI (List.length r)) t Z1c 0 (λ_=>b true) (λ_=>b false)
def j5G:Sig Unit:=sg [.look y29 true,.look y3 true] [false] [(y29,none),(y3,none)] [] λb f k=>j39 b.1 b.2.1 (λd=>k [wB d] [] [])
theorem jcG:SO 293 j5G:=fK (np:=0) (Za6 jga Zas) [jfv] (oI 58 0 @jkD oN) false Tryz.func293 λ_ _ _ _=>by kernel_rfl
def j4w (f:qL) (g:Int) (t:qB×qE×qL) (r:List qV) (d:List qV) (b:Int) (rec:qW->Int->Res) (i:qW->Res):Res:=bif decide (b<g) then bif inb b (List.length f) then j0h t (nth eS f b) λh=>bif inb h (List.length r) then bif lim ((List.length d)+1) then rec (d++[nth (0,0,eS) r h]) (Z9K (b+1)) else none else none else none else i d
def j9N (d:qL) (f:Int) (t:qB×qE×qL) (r:List qV):(qW×Int)->(qW×Int->Res)->((qW->Res))->Res:=λv rec q=>j4w d f t r v.1 v.2 (λb g=>rec (b,g)) q
def jgh (d:qL) (f:Int) (t:qB×qE×qL) (r:List qV) (n:Nat) (b:List qV) (g:Int) (h:qW->Res):Res:=Z1f (j9N d f t r) n (b,g) (h)
def jfu:Z1d Unit:=NdL 28 28 [.t 2 (pB 2),.t 3 (pB 3),.R 5 y3 .O,.R 10 y0 .S,.I 11,.I 12] [(2,y29,[.S,.S]),(3,y3,[.S])] (λb d=>(b.1,b.2.2.2.1)) (λb v=>(v.1,b.2.1,b.2.2.1,v.2,())) (λd v=>((d.1.1,d.1.2),(d.2.1.1,d.2.1.2),())) (λb d=>j9N b.2.1 b.2.2.1 d.1.2 d.2.1.2) λb d g=>((λf=>g (.exit 0) [(5,v1 y3 f .O)] []))
theorem jkC:CN 0 58 Tryz.f238 jfu:=lK (Za6 j3v Zas) [] oN ([],[]) [(0,[5],[])] ([],[]) λ_ _ _ _ _=>by kernel_rfl
def j0H (t:qB×qE×qL) (r:List qV) (d:qW->Res):Res:=jgh t.2.2 (nI (List.length t.2.2)) t r Z1c [] 0 λb=>d b
def j1D:Sig Unit:=sg [.borrow y29 true,.borrow y3 true] [false] [(y29,none),(y3,none)] [] λb f k=>j0H b.1 b.2.1 (λd=>k [w1 y3 d .O] [] [])
theorem j7b:SO 238 j1D:=fK (np:=0) (Za6 j3v Zas) [jfu] (oI 58 0 @jkC oN) false Tryz.func238 λ_ _ _ _=>by kernel_rfl
def j2O (a:List qV) (b:List qV) (i:Int) (rec:Int->Res) (d:Unit->Res) (f:Bool->Res):Res:=bif decide (i<(nI (List.length a))) then bif decide (i<(nI (List.length b))) then bif inb i (List.length a) then bif inb i (List.length b) then bif !(((nth (0,0,eS) a i).1==(nth (0,0,eS) b i).1)&&(((nth (0,0,eS) a i).2.1==(nth (0,0,eS) b i).2.1)&&(sEq (nth (0,0,eS) a i).2.2 (nth (0,0,eS) b i).2.2))) then bif inb i (List.length a) then bif inb i (List.length b) then j7h (nth (0,0,eS) a i) (nth (0,0,eS) b i) λr=>f r else none else none else rec (Z9K (i+1)) else none else none else d () else d ()
def j86 (a:List qV) (b:List qV):Int->(Int->Res)->((Unit->Res)×(Bool->Res))->Res:=λv rec q=>j2O a b v (λi=>rec (i)) q.1 q.2
def jdH (a:List qV) (b:List qV) (n:Nat) (i:Int) (d:Unit->Res) (f:Bool->Res):Res:=Z1f (j86 a b) n (i) (d,f)
def jdl:Z1d Unit:=NdL 41 41 [.R 0 y3 .S,.R 1 y3 .S,.I 5] [] (λb d=>(b.2.2.1)) (λb v=>(b.1,b.2.1,v,())) (λd v=>()) (λb d=>j86 b.1 b.2.1) λb d f=>((λ_=>f (.exit 0) [(0,v1 y3 b.1 .S),(1,v1 y3 b.2.1 .S)] []),(λg=>f .ret [(4,vB g)] []))
theorem jit:CN 0 26 Tryz.f294 jdl:=lK (Za6 jeO Zas) [] oN ([],[]) [(0,[0,1],[])] ([4],[]) λ_ _ _ _ _=>by kernel_rfl
def j3x (a:List qV) (b:List qV) (d:Bool->Res):Res:=jdH a b Z1c 0 (λ_=>d (decide ((nI (List.length a))<(nI (List.length b))))) (λt=>d t)
def j5C:Sig Unit:=sg [.look y3 false,.look y3 false] [false] [(y3,none),(y3,none)] [] λb f k=>j3x b.1 b.2.1 (λd=>k [wB d] [] [])
theorem jeM:SO 294 j5C:=fK (np:=0) (Za6 jeO Zas) [jdl] (oI 26 0 @jit oN) false Tryz.func294 λ_ _ _ _=>by kernel_rfl
theorem jg0:FS [(238,j1D),(268,j3p),(293,j5G),(294,j5C)]:=(Za6 j7b (Za6 j5i (Za6 jcG (Za6 jeM Zas))))
def j25 (l:List qW) (d:List qW) (f:Int) (t:qB×qE×qL) (b:Int) (rec:Int->Res) (h:Unit->Res) (g:Unit->Res):Res:=bif decide (b<f) then bif inb b (List.length d) then j39 t (nth [] d b) λr=>bif !r then g () else bif decide (b>0) then bif inb (Z9K (b-1)) (List.length l) then j0H t (nth [] l (Z9K (b-1))) λi=>j0H t (nth [] d b) λj=>j3x i j λk=>bif !k then g () else rec (Z9K (b+1)) else none else rec (Z9K (b+1)) else none else h ()
def j3y (l:List qW) (b:List qW) (d:Int) (t:qB×qE×qL):Int->(Int->Res)->((Unit->Res)×(Unit->Res))->Res:=λv rec q=>j25 l b d t v (λf=>rec (f)) q.1 q.2
def jaM (l:List qW) (b:List qW) (d:Int) (t:qB×qE×qL) (n:Nat) (f:Int) (g:Unit->Res) (h:Unit->Res):Res:=Z1f (j3y l b d t) n (f) (g,h)
def jak:Z1d Unit:=NdL 45 45 [.R 1 y31 .S,.t 2 (pB 2),.R 15 y31 .S,.I 16,.I 17] [(2,y29,[.S,.S])] (λb d=>(b.2.2.2.1)) (λb v=>(b.1,b.2.1,b.2.2.1,v,())) (λd v=>((d.1.1,d.1.2),())) (λb d=>j3y b.1 b.2.1 b.2.2.1 d.1.2) λb d f=>((λ_=>f (.exit 0) [] []),(λ_=>f .ret [(4,vB false)] []))
theorem jjv:CN 0 58 Tryz.f251 jak:=lK jg0 [] oN ([],[]) [(0,[],[])] ([4],[]) λ_ _ _ _ _=>by delta j3y j25 j5G j1D j5C;refine gz j39 λ_ b=>gz j0H λ_ d=>gz j3x λ_ f=> ?_;rewrite [<-b,<-d,<-f];kernel_rfl
def j0Q (t:qB×qE×qL) (l:List qW) (b:Bool->Res):Res:=j0M t λr=>bif !r then b false else bif decide ((nI (List.length l))>60) then b false else jaM l l (nI (List.length l)) t Z1c 0 (λ_=>b true) (λ_=>b false)
def j1R:Sig Unit:=sg [.look y29 true,.look y31 false] [false] [(y29,none),(y31,none)] [] λb f k=>j0Q b.1 b.2.1 (λd=>k [wB d] [] [])
theorem j6y:SO 251 j1R:=fK (np:=0) jg0 [jak] (oI 58 0 @jjv oN) false Tryz.func251 λ_ _ _ _=>by delta j0Q j3p jak jaM;refine gz j0M λ_ b=>gz j3y λ_ d=> ?_;rewrite [<-b,<-d];kernel_rfl
def j2l (f:List qW) (h:Int) (b:List qW) (d:Int) (rec:qR->Int->Res) (g:qR->Res):Res:=bif decide (d<h) then bif inb d (List.length f) then j0t (nth [] f d) λr=>bif lim ((List.length b)+1) then rec (b++[r]) (Z9K (d+1)) else none else none else g b
def j7i (d:List qW) (f:Int):(qR×Int)->(qR×Int->Res)->((qR->Res))->Res:=λv rec q=>j2l d f v.1 v.2 (λb g=>rec (b,g)) q
def jcV (f:List qW) (g:Int) (n:Nat) (b:List qW) (h:Int) (d:qR->Res):Res:=Z1f (j7i f g) n (b,h) (d)
def jcj:Z1d Unit:=NdL 21 21 [.R 3 y31 .O,.R 6 y31 .S,.I 7,.I 8] [] (λb f=>(b.1,b.2.2.2.1)) (λb v=>(v.1,b.2.1,b.2.2.1,v.2,())) (λf v=>()) (λb f=>j7i b.2.1 b.2.2.1) λb f g=>((λd=>g (.exit 0) [(3,v1 y31 d .O)] []))
theorem jhK:CN 0 58 Tryz.f232 jcj:=lK (Za6 j4j Zas) [] oN ([],[]) [(0,[3],[])] ([],[]) λ_ _ _ _ _=>by kernel_rfl
def j0s (l:List qW) (d:qR->Res):Res:=jcV l (nI (List.length l)) Z1c [] 0 λb=>d b
def j0U:Sig Unit:=sg [.borrow y31 false] [false] [(y31,none)] [] λd f k=>j0s d.1 (λb=>k [w1 y31 b .O] [] [])
theorem j4i:SO 232 j0U:=fK (np:=0) (Za6 j4j Zas) [jcj] (oI 58 0 @jhK oN) false Tryz.func232 λ_ _ _ _=>by kernel_rfl
theorem j7F:FS [(211,j3N),(232,j0U),(251,j1R),(284,j0O),(317,j5F),(324,jaB)]:=(Za6 jcD (Za6 j4i (Za6 j6y (Za6 j3v (Za6 jeQ (Za6 jgy Zas))))))
def j4t (l:List qW) (t:qB×qE×qL) (d:qG) (b:Bool->Res):Res:=j0Q t l λr=>bif !r then b true else j2f d λf=>bif !f then b true else bif sNe d.2.1 t.1 then b true else b (d.1==1)
def j43:Z1d Unit:=Nd 98 98 [.R 1 y31 .S,.t 3 (pB 3),.t 5 (pB 5)] [(3,y29,[.S,.S]),(5,y13,[.S,.S])] λf b g=>j4t f.1 b.1.2 b.2.1.2 (λd=>g .normal [(1,v1 y31 f.1 .S),(3,pB 3),(5,pB 5),(33,vB d)] [(3,⟨y29,b.1.1,b.1.2,[.S,.S]⟩),(5,⟨y13,b.2.1.1,b.2.1.2,[.S,.S]⟩)])
theorem jiw:CN 0 12 Tryz.f298 j43:=nK j7F [] oN ([1,3,5,33],[3,5]) [] ([],[]) λ_ _ _=>by delta j4t j1R j3N;refine gz j0Q λ_ b=>gz j2f λ_ d=> ?_;rewrite [<-b,<-d];kernel_rfl
def j2P (g:Int) (d:qG) (f:List qW) (b:Int) (rec:qR->Int->Res) (h:qR->Res):Res:=bif decide (b<g) then bif inb b (List.length f) then bif inb 0 (List.length d.2.2.1) then bif lim ((List.length (nth [] f b))+1) then bif inb b (List.length (upd f b ((nth [] f b)++[(nth (eS,0,false,false,0,0,eS) d.2.2.1 0).2.2.2.2]))) then bif (Z9o (Int.toNat b) (Int.toNat b)&&true) then rec (upd f b ((nth [] f b)++[(nth (eS,0,false,false,0,0,eS) d.2.2.1 0).2.2.2.2])) (Z9K (b+1)) else none else none else none else none else none else h f
def j4Y (f:Int) (d:qG):(qR×Int)->(qR×Int->Res)->((qR->Res))->Res:=λv rec q=>j2P f d v.1 v.2 (λb g=>rec (b,g)) q
def j6U (f:Int) (d:qG) (n:Nat) (b:List qW) (g:Int) (h:qR->Res):Res:=Z1f (j4Y f d) n (b,g) (h)
def j6q:Z1d Unit:=NdL 98 98 [.t 5 (pB 5),.R 9 y31 .O,.I 51,.I 52] [(5,y13,[.S,.S])] (λb d=>(b.1,b.2.2.1)) (λb v=>(v.1,b.2.1,v.2,())) (λd v=>((d.1.1,d.1.2),())) (λb d=>j4Y b.2.1 d.1.2) λb d g=>((λf=>g (.exit 1) [(9,v1 y31 f .O)] []))
theorem jiu:CN 0 16058 Tryz.f298 j6q:=lK j7F [j43] oN ([],[]) [(1,[9],[])] ([],[]) λ_ _ _ _ _=>by kernel_rfl
def j2Q (f:Int) (g:Int) (d:List qW) (b:Int) (rec:qR->Int->Res) (h:qR->Res):Res:=bif decide (b<g) then bif inb b (List.length d) then j8c (nth [] d b) f (Z9K (f+1)) λr=>bif inb b (List.length (upd d b r)) then bif (Z9o (Int.toNat b) (Int.toNat b)&&true) then rec (upd d b r) (Z9K (b+1)) else none else none else none else h d
def j4Z (b:Int) (f:Int):(qR×Int)->(qR×Int->Res)->((qR->Res))->Res:=λv rec q=>j2Q b f v.1 v.2 (λd g=>rec (d,g)) q
def j6V (b:Int) (f:Int) (n:Nat) (d:List qW) (g:Int) (h:qR->Res):Res:=Z1f (j4Z b f) n (d,g) (h)
def j9c:Z1d Unit:=NdL 98 98 [.R 9 y31 .O,.I 11,.I 79,.I 80] [] (λb f=>(b.1,b.2.2.2.1)) (λb v=>(v.1,b.2.1,b.2.2.1,v.2,())) (λf v=>()) (λb f=>j4Z b.2.1 b.2.2.1) λb f g=>((λd=>g (.exit 3) [(9,v1 y31 d .O)] []))
theorem jiv:CN 0 128502 Tryz.f298 j9c:=lK j7F [j43,j6q] oN ([],[]) [(3,[9],[])] ([],[]) λ_ _ _ _ _=>by kernel_rfl
def j5p (t:qB×qE×qL) (l:List qW) (d:qG) (b:qR->Int->Res):Res:=j4t l t d λj=>bif j then b [] 1 else j2m [t] d λr=>bif (r != 0) then b [] r else j0s l λg=>bif (d.1==2) then b [] 0 else bif (d.1==3) then j6U (nI (List.length g)) d Z1c g 0 λh=>b h 0 else bif (d.1==4) then j0h t d.2.2.2.2.1 λi=>j6V i (nI (List.length g)) Z1c g 0 λf=>b f 0 else b g 0
def jaX:Sig Unit:=sg [.borrow y29 true,.borrow y31 false,.borrow y13 true] [false,false] [(y29,none),(y31,none),(y13,none)] [] λb g k=>j5p b.1 b.2.1 b.2.2.1 (λd f=>k [w1 y31 d .O,wI f] [] [])
theorem jke:SO 298 jaX:=fK (np:=0) j7F [j43,j6q,j9c] (oI 12 0 @jiw (oI 16058 1 @jiu (oI 128502 2 @jiv oN))) false Tryz.func298 λ_ _ _ _=>by delta j5p j43 j5F j0U j6q j0O j9c j6U j6V;refine gz j4t λ_ b=>gz j2m λ_ d=>gz j0s λ_ f=>gz j4Y λ_ g=>gz j0h λ_ h=>gz j4Z λ_ i=> ?_;rewrite [<-b,<-d,<-f,<-g,<-h,<-i];kernel_rfl
def jbn (r:List qV) (g:qB×qE×qL) (h:List qV) (b:Bool->Res):Res:=j0H g r λd=>j0Z d h λf=>b f
def jmc:Sig Unit:=sg [.look y3 true,.rptr y29,.rptr y3] [false] [(y3,none),(y29,none),(y3,none)] [] λb f k=>jbn b.1 b.2.1 b.2.2.1 (λd=>k [wB d] [] [])
theorem jg9:SO 237 jmc:=fK (np:=0) (Za6 j7c (Za6 j7b Zas)) [] oN false Tryz.func237 λ_ _ _ _=>by delta jbn j1D j2o;refine gz j0H λ_ b=>gz j0Z λ_ d=> ?_;rewrite [<-b,<-d];kernel_rfl
def j0W (s:List qW) (f:qT×List qV) (h:Int) (b:Int) (rec:Int->Res) (d:Unit->Res) (g:Int->Res):Res:=bif decide (b<h) then bif inb b (List.length s) then jbn (nth [] s b) f.1 f.2 λr=>bif r then g b else rec (Z9K (b+1)) else none else d ()
def j3b (s:List qW) (f:qT×List qV) (b:Int):Int->(Int->Res)->((Unit->Res)×(Int->Res))->Res:=λv rec q=>j0W s f b v (λd=>rec (d)) q.1 q.2
def j82 (s:List qW) (f:qT×List qV) (g:Int) (n:Nat) (h:Int) (b:Unit->Res) (d:Int->Res):Res:=Z1f (j3b s f g) n (h) (b,d)
def j7B:Z1d Unit:=NdL 19 19 [.R 0 y31 .S,.c 1 237 [y29,y3] y36 [.S,.S,.S],.I 7,.I 8] [] (λb d=>(b.2.2.2.1)) (λb v=>(b.1,b.2.1,b.2.2.1,v,())) (λd v=>()) (λb d=>j3b b.1 b.2.1 b.2.2.1) λb d f=>((λ_=>f (.exit 0) [] []),(λg=>f .ret [(4,vI g)] []))
theorem jd5:CN 0 26 Tryz.f236 j7B:=lK (Za6 jg9 Zas) [] oN ([],[]) [(0,[],[])] ([4],[]) λ_ _ _ _ _=>by kernel_rfl
def j6j (s:List qW) (f:qT×List qV) (b:Int->Res):Res:=j82 s f (nI (List.length s)) Z1c 0 (λ_=>b (-1)) (λt=>b t)
def jez:Sig Unit:=sg [.look y31 false,.rclos 237 [y29,y3]] [false] [(y31,none),(y36,none)] [] λb f k=>j6j b.1 b.2.1 (λd=>k [wI d] [] [])
theorem jen:SO 236 jez:=fK (np:=0) (Za6 jg9 Zas) [j7B] (oI 26 0 @jd5 oN) false Tryz.func236 λ_ _ _ _=>by kernel_rfl
def j0I (t:qB×qE×qL) (l:List qW) (b:List qV) (d:Int->Res):Res:=j6j l (t,b) λr=>d r
def j3O:Sig Unit:=sg [.look y29 true,.look y31 false,.look y3 false] [false] [(y29,none),(y31,none),(y3,none)] [] λb f k=>j0I b.1 b.2.1 b.2.2.1 (λd=>k [wI d] [] [])
theorem j9A:SO 177 j3O:=fK (np:=0) (Za6 jen Zas) [] oN false Tryz.func177 λ_ _ _ _=>by kernel_rfl
theorem jg3:FS [(178,j4z),(232,j0U),(238,j1D),(294,j5C),(325,j6R)]:=(Za6 j4j (Za6 j4i (Za6 j7b (Za6 jeM (Za6 jgz Zas)))))
def j26 (l:List qW) (t:qB×qE×qL) (r:List qV) (b:Int) (rec:Int->Res) (d:Int->Res):Res:=bif decide (b<(nI (List.length l))) then bif inb b (List.length l) then j0H t (nth [] l b) λf=>j0H t r λg=>j3x f g λh=>bif h then rec (Z9K (b+1)) else d b else none else d b
def j3C (l:List qW) (t:qB×qE×qL) (r:List qV):Int->(Int->Res)->((Int->Res))->Res:=λv rec q=>j26 l t r v (λb=>rec (b)) q
def jaP (l:List qW) (t:qB×qE×qL) (r:List qV) (n:Nat) (b:Int) (d:Int->Res):Res:=Z1f (j3C l t r) n (b) (d)
def jao:Z1d Unit:=NdL 35 35 [.R 1 y31 .S,.t 3 (pB 3),.t 5 (pB 5),.I 7] [(3,y29,[.S,.S]),(5,y3,[.S])] (λd b=>(d.2.1)) (λd v=>(d.1,v,())) (λb v=>((b.1.1,b.1.2),(b.2.1.1,b.2.1.2),())) (λd b=>j3C d.1 b.1.2 b.2.1.2) λd b g=>((λf=>g (.exit 0) [(1,v1 y31 d.1 .S),(5,pB 5),(7,vI f)] [(5,⟨y3,b.2.1.1,b.2.1.2,[.S]⟩)]))
theorem jjz:CN 0 28 Tryz.f299 jao:=lK jg3 [] oN ([],[]) [(0,[1,5,7],[5])] ([],[]) λ_ _ _ _ _=>by delta j3C j26 j1D j5C;refine gz j0H λ_ b=>gz j3x λ_ d=> ?_;rewrite [<-b,<-d];kernel_rfl
def j2g (t:qB×qE×qL) (l:List qW) (r:List qV) (d:qR->Res):Res:=jaP l t r Z1c 0 λb=>j0s l λf=>j0t r λg=>j53 f b [g] λh=>d h
def j8G:Sig Unit:=sg [.borrow y29 true,.borrow y31 false,.borrow y3 true] [false] [(y29,none),(y31,none),(y3,none)] [] λb f k=>j2g b.1 b.2.1 b.2.2.1 (λd=>k [w1 y31 d .O] [] [])
theorem jg8:SO 299 j8G:=fK (np:=0) jg3 [jao] (oI 28 0 @jjz oN) false Tryz.func299 λ_ _ _ _=>by delta j2g jao j0U j4z j6R jaP;refine gz j3C λ_ b=>gz j0s λ_ d=>gz j0t λ_ f=>gz j53 λ_ g=> ?_;rewrite [<-b,<-d,<-f,<-g];kernel_rfl
def j6J (t:qB×qE×qL) (l:List qW) (r:List qV) (b:qR->Int->Res):Res:=j0Q t l λd=>bif !d then b [] 1 else j39 t r λf=>bif !f then b [] 2 else j0H t r λg=>j0I t l g λh=>bif decide (h>=0) then b [] 3 else bif ((nI (List.length l))==60) then b [] 4 else j2g t l r λi=>b i 0
def jbS:Sig Unit:=sg [.borrow y29 true,.borrow y31 false,.borrow y3 true] [false,false] [(y29,none),(y31,none),(y3,none)] [] λb g k=>j6J b.1 b.2.1 b.2.2.1 (λd f=>k [w1 y31 d .O,wI f] [] [])
theorem jlt:SO 253 jbS:=fK (np:=0) (Za6 j9A (Za6 j7b (Za6 j6y (Za6 jcG (Za6 jg8 Zas))))) [] oN false Tryz.func253 λ_ _ _ _=>by delta j6J j1R j5G j1D j3O j8G;refine gz j0Q λ_ b=>gz j39 λ_ d=>gz j0H λ_ f=>gz j0I λ_ g=>gz j2g λ_ h=> ?_;rewrite [<-b,<-d,<-f,<-g,<-h];kernel_rfl
theorem jgC:FS [(268,j3p),(273,j7n),(284,j0O)]:=(Za6 j5i (Za6 j7a (Za6 j3v Zas)))
def j2w (d:List qV) (f:qL) (g:Int) (t:qB×qE×qL) (b:Int) (rec:Int->Res) (j:Unit->Res) (h:Unit->Res):Res:=bif decide (b<g) then bif inb b (List.length f) then bif inb b (List.length d) then j15 (nth (0,0,eS) d b) λr=>bif !r then h () else bif inb b (List.length d) then j0h t (nth eS f b) λi=>bif inb i (List.length t.2.1) then bif ((nth (0,0,eS) d b).1 != (nth (eS,0,false,false,0,0,eS) t.2.1 i).2.1) then h () else rec (Z9K (b+1)) else none else none else none else none else j ()
def j4r (b:List qV) (d:qL) (f:Int) (t:qB×qE×qL):Int->(Int->Res)->((Unit->Res)×(Unit->Res))->Res:=λv rec q=>j2w b d f t v (λg=>rec (g)) q.1 q.2
def jbN (b:List qV) (d:qL) (f:Int) (t:qB×qE×qL) (n:Nat) (g:Int) (h:Unit->Res) (i:Unit->Res):Res:=Z1f (j4r b d f t) n (g) (h,i)
def jbe:Z1d Unit:=NdL 49 49 [.R 1 y3 .S,.t 2 (pB 2),.R 19 y0 .S,.I 20,.I 21] [(2,y29,[.S,.S])] (λb d=>(b.2.2.2.1)) (λb v=>(b.1,b.2.1,b.2.2.1,v,())) (λd v=>((d.1.1,d.1.2),())) (λb d=>j4r b.1 b.2.1 b.2.2.1 d.1.2) λb d f=>((λ_=>f (.exit 0) [] []),(λ_=>f .ret [(4,vB false)] []))
theorem jkB:CN 0 58 Tryz.f300 jbe:=lK jgC [] oN ([],[]) [(0,[],[])] ([4],[]) λ_ _ _ _ _=>by delta j4r j2w j7n j0O;refine gz j15 λ_ b=>gz j0h λ_ d=> ?_;rewrite [<-b,<-d];kernel_rfl
def j4q (t:qB×qE×qL) (b:List qV) (d:Bool->Res):Res:=j0M t λr=>bif !r then d false else bif ((nI (List.length b)) != (nI (List.length t.2.2))) then d false else jbN b t.2.2 (nI (List.length t.2.2)) t Z1c 0 (λ_=>d true) (λ_=>d false)
def ja4:Sig Unit:=sg [.look y29 true,.look y3 false] [false] [(y29,none),(y3,none)] [] λb f k=>j4q b.1 b.2.1 (λd=>k [wB d] [] [])
theorem jgK:SO 300 ja4:=fK (np:=0) jgC [jbe] (oI 58 0 @jkB oN) false Tryz.func300 λ_ _ _ _=>by delta j4q j3p jbe jbN;refine gz j0M λ_ b=>gz j4r λ_ d=> ?_;rewrite [<-b,<-d];kernel_rfl
theorem jfZ:FS [(128,j2o),(177,j3O),(232,j0U),(238,j1D),(251,j1R),(293,j5G),(299,j8G),(300,ja4),(301,j48)]:=(Za6 j7c (Za6 j9A (Za6 j4i (Za6 j7b (Za6 j6y (Za6 jcG (Za6 jg8 (Za6 jgK (Za6 jay Zas)))))))))
def j5o (l:List qW) (b:List qV) (now:List qV) (t:qB×qE×qL) (d:Unit->Res) (f:Unit->Res):Res:=j0Z now b λg=>bif !g then j0I t l now λh=>bif decide (h>=0) then f () else d () else d ()
def jaj:Z1d Unit:=Nd 61 61 [.R 1 y31 .S,.R 2 y3 .S,.t 4 (pB 4),.t 7 (pB 7),.R 10 y3 .O] [(4,y29,[.S,.S]),(7,y3,[.S])] λb d f=>j5o b.1 b.2.1 b.2.2.1 d.1.2 (λ_=>f .normal [(1,v1 y31 b.1 .S),(2,v1 y3 b.2.1 .S),(4,pB 4),(7,pB 7)] [(4,⟨y29,d.1.1,d.1.2,[.S,.S]⟩),(7,⟨y3,d.2.1.1,d.2.1.2,[.S]⟩)]) (λ_=>f .ret [(8,v1 y31 [] .O),(9,vI 3)] [])
theorem jju:CN 0 30 Tryz.f254 jaj:=nK jfZ [] oN ([1,2,4,7],[4,7]) [] ([8,9],[]) λ_ _ _=>by delta j5o j2o j3O;refine gz j0Z λ_ b=>gz j0I λ_ d=> ?_;rewrite [<-b,<-d];kernel_rfl
def j6K (t:qB×qE×qL) (l:List qW) (b:List qV) (r:List qV) (d:qR->Int->Res):Res:=j0Q t l λg=>bif !g then d [] 1 else j39 t r λh=>bif !h then d [] 2 else j4q t b λi=>bif !i then d [] 5 else j0I t l b λj=>bif decide (j<0) then d [] 5 else j0H t r λk=>j5o l b k t (λ_=>j0I t l b λf=>j0s l λm=>j0S m f (Z9K (f+1)) λn=>j2g t n r λp=>d p 0) (λ_=>d [] 3)
def jbT:Sig Unit:=sg [.borrow y29 true,.borrow y31 false,.borrow y3 false,.borrow y3 true] [false,false] [(y29,none),(y31,none),(y3,none),(y3,none)] [] λb g k=>j6K b.1 b.2.1 b.2.2.1 b.2.2.2.1 (λd f=>k [w1 y31 d .O,wI f] [] [])
theorem jlu:SO 254 jbT:=fK (np:=0) jfZ [jaj] (oI 30 0 @jju oN) false Tryz.func254 λ_ _ _ _=>by delta j6K j1R j5G ja4 j3O j1D jaj j0U j48 j8G;refine gz j0Q λ_ b=>gz j39 λ_ d=>gz j4q λ_ f=>gz j0I λ_ g=>gz j0H λ_ h=>gz j5o λ_ i=>gz j0s λ_ j=>gz j0S λ_ k=>gz j2g λ_ l=> ?_;rewrite [<-b,<-d,<-f,<-g,<-h,<-i,<-j,<-k,<-l];kernel_rfl
def j6I (t:qB×qE×qL) (l:List qW) (b:List qV) (d:qR->Int->Res):Res:=j0Q t l λr=>bif !r then d [] 1 else j4q t b λg=>bif !g then d [] 5 else j0I t l b λh=>bif decide (h<0) then d [] 5 else j0I t l b λf=>j0s l λi=>j0S i f (Z9K (f+1)) λj=>d j 0
def jbR:Sig Unit:=sg [.borrow y29 true,.borrow y31 false,.borrow y3 false] [false,false] [(y29,none),(y31,none),(y3,none)] [] λb g k=>j6I b.1 b.2.1 b.2.2.1 (λd f=>k [w1 y31 d .O,wI f] [] [])
theorem jls:SO 255 jbR:=fK (np:=0) (Za6 j9A (Za6 j4i (Za6 j6y (Za6 jgK (Za6 jay Zas))))) [] oN false Tryz.func255 λ_ _ _ _=>by delta j6I j1R ja4 j3O j0U j48;refine gz j0Q λ_ b=>gz j4q λ_ d=>gz j0I λ_ f=>gz j0s λ_ g=>gz j0S λ_ h=> ?_;rewrite [<-b,<-d,<-f,<-g,<-h];kernel_rfl
end
end Go.PI.G
