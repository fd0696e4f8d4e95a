/-
  Program's code interpreted over typed values; printed texts; plain laws. No conditions.
-/
import Derived.Test.YtnemiodjnhfejaaGreatSPd
import Derived.Test.YtnemiodjnhfejaaGreatSPe
import Derived.Test.YtnemiodjnhfejaaGreatSPf
set_option linter.unusedVariables false
set_option maxRecDepth 100000
namespace Go.PI.G
noncomputable section
open Go Go.PI Go.Proofs
open Go.Code (pl pr)
def j0t (r:List qV) (b:qW->Res):Res:=bif lim (0+(List.length r)) then b r else none
def j67:Sig Unit:=sg [.borrow y3 true] [true] [(y3,none)] [] λd f k=>j0t d.1 (λb=>k [⟨y3,true,b,[.O]⟩] [] [])
theorem j3T:SO 115 j67:=fK (np:=0) Za2 [] oN false Tryz.func115 λ_ _ _ _=>by kernel_rfl
def j3B (c:qB×Int×Bool×Bool×Int×Int×qB) (d:Int×Int×qB) (b:Bool->Res):Res:=bif (d.1==0) then j18 d λr=>bif r then b (!c.2.2.1) else b false else j18 d λf=>bif f then b (d.1==c.2.1) else b false
def j7q:Sig Unit:=sg [.look y7 true,.look y2 true] [false] [(y7,none),(y2,none)] [] λb f k=>j3B b.1 b.2.1 (λd=>k [wB d] [] [])
theorem jdS:SO 281 j7q:=fK (np:=0) (Z9H j6L Za2) [] oN false Tryz.func281 λ_ _ _ _=>by delta j3B j9k;refine gz j18 λ_ b=> ?_;rewrite [<-b];kernel_rfl
theorem jfx:FS [(227,j0W),(281,j7q)]:=(Z9H j2X (Z9H jdS Za2))
def j4n (d:List qC) (f:Int) (r:List qV) (b:Int) (rec:Int->Res) (g:Unit->Res) (h:Unit->Res):Res:=bif decide (b<f) then bif inb b (List.length d) then bif inb b (List.length r) then j3B (nth (eS,0,false,false,0,0,eS) d b) (nth (0,0,eS) r b) λi=>bif !i then h () else rec (Z9x (b+1)) else none else none else g ()
def j6C (b:List qC) (d:Int) (r:List qV):Int->(Int->Res)->((Unit->Res)×(Unit->Res))->Res:=λv rec q=>j4n b d r v (λf=>rec (f)) q.1 q.2
def jb8 (b:List qC) (d:Int) (r:List qV) (n:Nat) (f:Int) (g:Unit->Res) (h:Unit->Res):Res:=Z1N (j6C b d r) n (f) (g,h)
def jax:Z1q Unit:=NdL 36 36 [.t 3 (pB 3),.R 20 y8 .S,.I 21,.I 22] [(3,y3,[.S])] (λb d=>(b.2.2.1)) (λb v=>(b.1,b.2.1,v,())) (λd v=>((d.1.1,d.1.2),())) (λb d=>j6C b.1 b.2.1 d.1.2) λb d f=>((λ_=>f (.exit 0) [] []),(λ_=>f .ret [(4,vB false)] []))
theorem jjp:CN 0 58 Tryz.f228 jax:=lK jfx [] oN ([],[]) [(0,[],[])] ([4],[]) λ_ _ _ _ _=>by kernel_rfl
def j1Y (t:qB×qE×qL) (r:List qV) (b:Bool->Res):Res:=j0o t λd=>bif !d then b false else bif ((nI (List.length r)) != (nI (List.length t.2.1))) then b false else jb8 t.2.1 (nI (List.length t.2.1)) r Z1Y 0 (λ_=>b true) (λ_=>b false)
def j6Y:Sig Unit:=sg [.look y24 true,.look y3 true] [false] [(y24,none),(y3,none)] [] λb f k=>j1Y b.1 b.2.1 (λd=>k [wB d] [] [])
theorem jbP:SO 228 j6Y:=fK (np:=0) jfx [jax] (oI 58 0 @jjp oN) false Tryz.func228 λ_ _ _ _=>by delta j1Y j0W jax jb8;refine gz j0o λ_ b=>gz j6C λ_ d=> ?_;rewrite [<-b,<-d];kernel_rfl
def j3C (f:qL) (g:Int) (t:qB×qE×qL) (r:List qV) (d:List qV) (b:Int) (rec:qW->Int->Res) (i:qW->Res):Res:=bif decide (b<g) then bif inb b (List.length f) then j0B t (nth eS f b) λh=>bif inb h (List.length r) then bif lim ((List.length d)+1) then rec (d++[nth (0,0,eS) r h]) (Z9x (b+1)) else none else none else none else i d
def j8y (d:qL) (f:Int) (t:qB×qE×qL) (r:List qV):(qW×Int)->(qW×Int->Res)->((qW->Res))->Res:=λv rec q=>j3C d f t r v.1 v.2 (λb g=>rec (b,g)) q
def jec (d:qL) (f:Int) (t:qB×qE×qL) (r:List qV) (n:Nat) (b:List qV) (g:Int) (h:qW->Res):Res:=Z1N (j8y d f t r) n (b,g) (h)
def jdc:Z1q Unit:=NdL 28 28 [.t 2 (pB 2),.t 3 (pB 3),.R 5 y3 .O,.R 10 y0 .S,.I 11,.I 12] [(2,y24,[.S,.S]),(3,y3,[.S])] (λb d=>(b.1,b.2.2.2.1)) (λb v=>(v.1,b.2.1,b.2.2.1,v.2,())) (λd v=>((d.1.1,d.1.2),(d.2.1.1,d.2.1.2),())) (λb d=>j8y b.2.1 b.2.2.1 d.1.2 d.2.1.2) λb d g=>((λf=>g (.exit 0) [(5,v1 y3 f .O)] []))
theorem jiy:CN 0 58 Tryz.f173 jdc:=lK (Z9H j4V Za2) [] oN ([],[]) [(0,[5],[])] ([],[]) λ_ _ _ _ _=>by kernel_rfl
def j0s (t:qB×qE×qL) (r:List qV) (d:qW->Res):Res:=jec t.2.2 (nI (List.length t.2.2)) t r Z1Y [] 0 λb=>d b
def j17:Sig Unit:=sg [.borrow y24 true,.borrow y3 true] [false] [(y24,none),(y3,none)] [] λb f k=>j0s b.1 b.2.1 (λd=>k [w1 y3 d .O] [] [])
theorem j62:SO 173 j17:=fK (np:=0) (Z9H j4V Za2) [jdc] (oI 58 0 @jiy oN) false Tryz.func173 λ_ _ _ _=>by kernel_rfl
def j2C (a:List qV) (b:List qV) (i:Int) (rec:Int->Res) (d:Unit->Res) (f:Bool->Res):Res:=bif decide (i<(nI (List.length a))) then bif decide (i<(nI (List.length b))) then bif inb i (List.length a) then bif inb i (List.length b) then bif !(((nth (0,0,eS) a i).1==(nth (0,0,eS) b i).1)&&(((nth (0,0,eS) a i).2.1==(nth (0,0,eS) b i).2.1)&&(sEq (nth (0,0,eS) a i).2.2 (nth (0,0,eS) b i).2.2))) then bif inb i (List.length a) then bif inb i (List.length b) then j73 (nth (0,0,eS) a i) (nth (0,0,eS) b i) λr=>f r else none else none else rec (Z9x (i+1)) else none else none else d () else d ()
def j7I (a:List qV) (b:List qV):Int->(Int->Res)->((Unit->Res)×(Bool->Res))->Res:=λv rec q=>j2C a b v (λi=>rec (i)) q.1 q.2
def jcT (a:List qV) (b:List qV) (n:Nat) (i:Int) (d:Unit->Res) (f:Bool->Res):Res:=Z1N (j7I a b) n (i) (d,f)
def jco:Z1q Unit:=NdL 41 41 [.R 0 y3 .S,.R 1 y3 .S,.I 5] [] (λb d=>(b.2.2.1)) (λb v=>(b.1,b.2.1,v,())) (λd v=>()) (λb d=>j7I b.1 b.2.1) λb d f=>((λ_=>f (.exit 0) [(0,v1 y3 b.1 .S),(1,v1 y3 b.2.1 .S)] []),(λg=>f .ret [(4,vB g)] []))
theorem jhu:CN 0 26 Tryz.f229 jco:=lK (Z9H jdP Za2) [] oN ([],[]) [(0,[0,1],[])] ([4],[]) λ_ _ _ _ _=>by kernel_rfl
def j3v (a:List qV) (b:List qV) (d:Bool->Res):Res:=jcT a b Z1Y 0 (λ_=>d (decide ((nI (List.length a))<(nI (List.length b))))) (λt=>d t)
def j5k:Sig Unit:=sg [.look y3 false,.look y3 false] [false] [(y3,none),(y3,none)] [] λb f k=>j3v b.1 b.2.1 (λd=>k [wB d] [] [])
theorem jdO:SO 229 j5k:=fK (np:=0) (Z9H jdP Za2) [jco] (oI 26 0 @jhu oN) false Tryz.func229 λ_ _ _ _=>by kernel_rfl
theorem jeQ:FS [(173,j17),(227,j0W),(228,j6Y),(229,j5k)]:=(Z9H j62 (Z9H j2X (Z9H jbP (Z9H jdO Za2))))
def j1S (l:List qW) (d:List qW) (f:Int) (t:qB×qE×qL) (b:Int) (rec:Int->Res) (h:Unit->Res) (g:Unit->Res):Res:=bif decide (b<f) then bif inb b (List.length d) then j1Y t (nth [] d b) λr=>bif !r then g () else bif decide (b>0) then bif inb (Z9x (b-1)) (List.length l) then j0s t (nth [] l (Z9x (b-1))) λi=>j0s t (nth [] d b) λj=>j3v i j λk=>bif !k then g () else rec (Z9x (b+1)) else none else rec (Z9x (b+1)) else none else h ()
def j3w (l:List qW) (b:List qW) (d:Int) (t:qB×qE×qL):Int->(Int->Res)->((Unit->Res)×(Unit->Res))->Res:=λv rec q=>j1S l b d t v (λf=>rec (f)) q.1 q.2
def jam (l:List qW) (b:List qW) (d:Int) (t:qB×qE×qL) (n:Nat) (f:Int) (g:Unit->Res) (h:Unit->Res):Res:=Z1N (j3w l b d t) n (f) (g,h)
def j9K:Z1q Unit:=NdL 45 45 [.R 1 y26 .S,.t 2 (pB 2),.R 15 y26 .S,.I 16,.I 17] [(2,y24,[.S,.S])] (λb d=>(b.2.2.2.1)) (λb v=>(b.1,b.2.1,b.2.2.1,v,())) (λd v=>((d.1.1,d.1.2),())) (λb d=>j3w b.1 b.2.1 b.2.2.1 d.1.2) λb d f=>((λ_=>f (.exit 0) [] []),(λ_=>f .ret [(4,vB false)] []))
theorem jis:CN 0 58 Tryz.f172 j9K:=lK jeQ [] oN ([],[]) [(0,[],[])] ([4],[]) λ_ _ _ _ _=>by delta j3w j1S j6Y j17 j5k;refine gz j1Y λ_ b=>gz j0s λ_ d=>gz j3v λ_ f=> ?_;rewrite [<-b,<-d,<-f];kernel_rfl
def j0r (t:qB×qE×qL) (l:List qW) (b:Bool->Res):Res:=j0o t λr=>bif !r then b false else bif decide ((nI (List.length l))>60) then b false else jam l l (nI (List.length l)) t Z1Y 0 (λ_=>b true) (λ_=>b false)
def j16:Sig Unit:=sg [.look y24 true,.look y26 false] [false] [(y24,none),(y26,none)] [] λb f k=>j0r b.1 b.2.1 (λd=>k [wB d] [] [])
theorem j3S:SO 172 j16:=fK (np:=0) jeQ [j9K] (oI 58 0 @jis oN) false Tryz.func172 λ_ _ _ _=>by delta j0r j0W j9K jam;refine gz j0o λ_ b=>gz j3w λ_ d=> ?_;rewrite [<-b,<-d];kernel_rfl
def j2J (f:List qW) (h:Int) (b:List qW) (d:Int) (rec:qR->Int->Res) (g:qR->Res):Res:=bif decide (d<h) then bif inb d (List.length f) then j0t (nth [] f d) λr=>bif lim ((List.length b)+1) then rec (b++[r]) (Z9x (d+1)) else none else none else g b
def j7L (d:List qW) (f:Int):(qR×Int)->(qR×Int->Res)->((qR->Res))->Res:=λv rec q=>j2J d f v.1 v.2 (λb g=>rec (b,g)) q
def jcW (f:List qW) (g:Int) (n:Nat) (b:List qW) (h:Int) (d:qR->Res):Res:=Z1N (j7L f g) n (b,h) (d)
def jcr:Z1q Unit:=NdL 20 20 [.R 3 y26 .O,.R 7 y26 .S,.I 8,.I 9] [] (λb f=>(b.1,b.2.2.2.1)) (λb v=>(v.1,b.2.1,b.2.2.1,v.2,())) (λf v=>()) (λb f=>j7L b.2.1 b.2.2.1) λb f g=>((λd=>g (.exit 0) [(3,v1 y26 d .O)] []))
theorem jhE:CN 0 58 Tryz.f244 jcr:=lK (Z9H j3T Za2) [] oN ([],[]) [(0,[3],[])] ([],[]) λ_ _ _ _ _=>by kernel_rfl
def j5x (l:List qW) (d:qR->Res):Res:=jcW l (nI (List.length l)) Z1Y [] 0 λb=>d b
def j7p:Sig Unit:=sg [.borrow y26 false] [false] [(y26,none)] [] λd f k=>j5x d.1 (λb=>k [w1 y26 b .O] [] [])
theorem jdR:SO 244 j7p:=fK (np:=0) (Z9H j3T Za2) [jcr] (oI 58 0 @jhE oN) false Tryz.func244 λ_ _ _ _=>by kernel_rfl
def j1j (a:List qV) (b:List qV) (f:Int) (d:Int) (rec:Int->Res) (g:Unit->Res) (h:Unit->Res):Res:=bif decide (d<f) then bif inb d (List.length a) then bif inb d (List.length b) then bif !(((nth (0,0,eS) a d).1==(nth (0,0,eS) b d).1)&&(((nth (0,0,eS) a d).2.1==(nth (0,0,eS) b d).2.1)&&(sEq (nth (0,0,eS) a d).2.2 (nth (0,0,eS) b d).2.2))) then h () else rec (Z9x (d+1)) else none else none else g ()
def j5z (a:List qV) (b:List qV) (d:Int):Int->(Int->Res)->((Unit->Res)×(Unit->Res))->Res:=λv rec q=>j1j a b d v (λf=>rec (f)) q.1 q.2
def j9V (a:List qV) (b:List qV) (d:Int) (n:Nat) (f:Int) (g:Unit->Res) (h:Unit->Res):Res:=Z1N (j5z a b d) n (f) (g,h)
def j9O:Z1q Unit:=NdL 26 26 [.R 0 y3 .S,.R 1 y3 .S,.I 12,.I 13] [] (λb d=>(b.2.2.2.1)) (λb v=>(b.1,b.2.1,b.2.2.1,v,())) (λd v=>()) (λb d=>j5z b.1 b.2.1 b.2.2.1) λb d f=>((λ_=>f (.exit 0) [] []),(λ_=>f .ret [(4,vB false)] []))
theorem jeC:CN 0 58 Tryz.f126 j9O:=lK Za2 [] oN ([],[]) [(0,[],[])] ([4],[]) λ_ _ _ _ _=>by kernel_rfl
def j3E (a:List qV) (b:List qV) (d:Bool->Res):Res:=bif ((nI (List.length a)) != (nI (List.length b))) then d false else j9V a b (nI (List.length a)) Z1Y 0 (λ_=>d true) (λ_=>d false)
def j6Z:Sig Unit:=sg [.look y3 false,.look y3 false] [false] [(y3,none),(y3,none)] [] λb f k=>j3E b.1 b.2.1 (λd=>k [wB d] [] [])
theorem jfO:SO 126 j6Z:=fK (np:=0) Za2 [j9O] (oI 58 0 @jeC oN) false Tryz.func126 λ_ _ _ _=>by kernel_rfl
theorem jfw:FS [(126,j6Z),(172,j16),(173,j17)]:=(Z9H jfO (Z9H j3S (Z9H j62 Za2)))
def j2j (f:List qV) (d:List qW) (g:Int) (t:qB×qE×qL) (b:Int) (rec:Int->Res) (h:Unit->Res) (i:Int->Res):Res:=bif decide (b<g) then bif inb b (List.length d) then j0s t (nth [] d b) λr=>j3E r f λj=>bif j then i b else rec (Z9x (b+1)) else none else h ()
def j4m (b:List qV) (d:List qW) (f:Int) (t:qB×qE×qL):Int->(Int->Res)->((Unit->Res)×(Int->Res))->Res:=λv rec q=>j2j b d f t v (λg=>rec (g)) q.1 q.2
def jb7 (b:List qV) (d:List qW) (f:Int) (t:qB×qE×qL) (n:Nat) (g:Int) (h:Unit->Res) (i:Int->Res):Res:=Z1N (j4m b d f t) n (g) (h,i)
def jaw:Z1q Unit:=NdL 27 27 [.R 2 y3 .S,.t 3 (pB 3),.R 13 y26 .S,.I 14,.I 15] [(3,y24,[.S,.S])] (λb d=>(b.2.2.2.1)) (λb v=>(b.1,b.2.1,b.2.2.1,v,())) (λd v=>((d.1.1,d.1.2),())) (λb d=>j4m b.1 b.2.1 b.2.2.1 d.1.2) λb d f=>((λ_=>f (.exit 0) [] []),(λg=>f .ret [(6,vI g)] []))
theorem jjo:CN 0 58 Tryz.f114 jaw:=lK jfw [] oN ([],[]) [(0,[],[])] ([6],[]) λ_ _ _ _ _=>by delta j4m j2j j17 j6Z;refine gz j0s λ_ b=>gz j3E λ_ d=> ?_;rewrite [<-b,<-d];kernel_rfl
def j1q (t:qB×qE×qL) (l:List qW) (d:List qV) (b:Int->Res):Res:=j0r t l λr=>bif !r then b (-1) else jb7 d l (nI (List.length l)) t Z1Y 0 (λ_=>b (-1)) (λf=>b f)
def j9j:Sig Unit:=sg [.look y24 true,.look y26 false,.look y3 false] [false] [(y24,none),(y26,none),(y3,none)] [] λb f k=>j1q b.1 b.2.1 b.2.2.1 (λd=>k [wI d] [] [])
theorem jbO:SO 114 j9j:=fK (np:=0) jfw [jaw] (oI 58 0 @jjo oN) false Tryz.func114 λ_ _ _ _=>by delta j1q j16 jaw jb7;refine gz j0r λ_ b=>gz j4m λ_ d=> ?_;rewrite [<-b,<-d];kernel_rfl
theorem jaR:FS [(115,j67),(173,j17),(229,j5k)]:=(Z9H j3T (Z9H j62 (Z9H jdO Za2)))
def j5y (b:List qW) (done:Bool) (t:qB×qE×qL) (r:List qV) (x:List qV) (d:qR->Bool->Res):Res:=bif !done then j0s t r λf=>j0s t x λg=>j3v f g λh=>bif h then j0t r λi=>bif lim ((List.length b)+1) then d (b++[i]) true else none else d b done else d b done
def j6I:Z1q Unit:=Nd 48 48 [.t 3 (pB 3),.t 5 (pB 5),.R 7 y26 .O,.B 8,.t 10 (pB 10),.R 12 y26 .S,.I 13,.I 14] [(3,y24,[.S,.S]),(5,y3,[.S]),(10,y3,[.S])] λg b h=>j5y g.1 g.2.1 b.1.2 b.2.1.2 b.2.2.1.2 (λf d=>h .normal [(3,pB 3),(5,pB 5),(7,v1 y26 f .O),(8,vB d),(10,pB 10),(12,v1 y26 g.2.2.1 .S),(13,vI g.2.2.2.1),(14,vI g.2.2.2.2.1)] [(3,⟨y24,b.1.1,b.1.2,[.S,.S]⟩),(5,⟨y3,b.2.1.1,b.2.1.2,[.S]⟩),(10,⟨y3,b.2.2.1.1,b.2.2.1.2,[.S]⟩)])
theorem jiA:CN 0 15666 Tryz.f312 j6I:=nK jaR [] oN ([3,5,7,8,10,12,13,14],[3,5,10]) [] ([],[]) λ_ _ _=>by delta j5y j17 j5k j67;refine gz j0s λ_ b=>gz j3v λ_ d=>gz j0t λ_ f=> ?_;rewrite [<-b,<-d,<-f];kernel_rfl
def j1T (g:List qW) (i:Int) (t:qB×qE×qL) (r:List qV) (h:List qW) (done:Bool) (b:Int) (rec:qR->Bool->Int->Res) (j:qR->Bool->Res):Res:=bif decide (b<i) then bif inb b (List.length g) then j5y h done t r (nth [] g b) λd f=>j0t (nth [] g b) λk=>bif lim ((List.length d)+1) then rec (d++[k]) f (Z9x (b+1)) else none else none else j h done
def j3D (d:List qW) (f:Int) (t:qB×qE×qL) (r:List qV):(qR×Bool×Int)->(qR×Bool×Int->Res)->((qR->Bool->Res))->Res:=λv rec q=>j1T d f t r v.1 v.2.1 v.2.2 (λb done g=>rec (b,done,g)) q
def jaq (d:List qW) (f:Int) (t:qB×qE×qL) (r:List qV) (n:Nat) (b:List qW) (done:Bool) (g:Int) (h:qR->Bool->Res):Res:=Z1N (j3D d f t r) n (b,done,g) (h)
def j9N:Z1q Unit:=NdL 48 48 [.t 3 (pB 3),.t 5 (pB 5),.R 7 y26 .O,.B 8,.R 12 y26 .S,.I 13,.I 14] [(3,y24,[.S,.S]),(5,y3,[.S])] (λd b=>(d.1,d.2.1,d.2.2.2.2.1)) (λd v=>(v.1,v.2.1,d.2.2.1,d.2.2.2.1,v.2.2,())) (λb v=>((b.1.1,b.1.2),(b.2.1.1,b.2.1.2),())) (λd b=>j3D d.2.2.1 d.2.2.2.1 b.1.2 b.2.1.2) λd b h=>((λg f=>h (.exit 0) [(5,pB 5),(7,v1 y26 g .O),(8,vB f)] [(5,⟨y3,b.2.1.1,b.2.1.2,[.S]⟩)]))
theorem jiz:CN 0 122 Tryz.f312 j9N:=lK jaR [j6I] (oI 114 0 @jiA oN) ([],[]) [(0,[5,7,8],[5])] ([],[]) λ_ _ _ _ _=>by delta j3D j1T j6I j67;refine gz j5y λ_ b=>gz j0t λ_ d=> ?_;rewrite [<-b,<-d];kernel_rfl
def j2W (t:qB×qE×qL) (l:List qW) (r:List qV) (d:qR->Res):Res:=jaq l (nI (List.length l)) t r Z1Y [] false 0 λb done=>bif !done then j0t r λf=>bif lim ((List.length b)+1) then d (b++[f]) else none else d b
def jb3:Sig Unit:=sg [.borrow y24 true,.borrow y26 false,.borrow y3 true] [false] [(y24,none),(y26,none),(y3,none)] [] λb f k=>j2W b.1 b.2.1 b.2.2.1 (λd=>k [w1 y26 d .O] [] [])
theorem jf1:SO 312 jb3:=fK (np:=0) jaR [j6I,j9N] (oI 122 1 @jiz oN) false Tryz.func312 λ_ _ _ _=>by delta j2W j9N j67 jaq;refine gz j3D λ_ b=>gz j0t λ_ d=> ?_;rewrite [<-b,<-d];kernel_rfl
def j6k (t:qB×qE×qL) (l:List qW) (r:List qV) (b:qR->Int->Res):Res:=j0r t l λd=>bif !d then b [] 1 else j1Y t r λf=>bif !f then b [] 2 else j0s t r λg=>j1q t l g λh=>bif decide (h>=0) then b [] 3 else bif ((nI (List.length l))==60) then b [] 4 else j2W t l r λi=>b i 0
def jfg:Sig Unit:=sg [.borrow y24 true,.borrow y26 false,.borrow y3 true] [false,false] [(y24,none),(y26,none),(y3,none)] [] λb g k=>j6k b.1 b.2.1 b.2.2.1 (λd f=>k [w1 y26 d .O,wI f] [] [])
theorem jko:SO 288 jfg:=fK (np:=0) (Z9H jbO (Z9H j3S (Z9H j62 (Z9H jbP (Z9H jf1 Za2))))) [] oN false Tryz.func288 λ_ _ _ _=>by delta j6k j16 j6Y j17 j9j jb3;refine gz j0r λ_ b=>gz j1Y λ_ d=>gz j0s λ_ f=>gz j1q λ_ g=>gz j2W λ_ h=> ?_;rewrite [<-b,<-d,<-f,<-g,<-h];kernel_rfl
theorem jfu:FS [(227,j0W),(230,j26),(281,j7q)]:=(Z9H j2X (Z9H j4V (Z9H jdS Za2)))
def j2i (d:List qV) (f:qL) (g:Int) (t:qB×qE×qL) (b:Int) (rec:Int->Res) (h:Unit->Res) (i:Unit->Res):Res:=bif decide (b<g) then bif inb b (List.length f) then bif inb b (List.length d) then j0B t (nth eS f b) λr=>bif inb r (List.length t.2.1) then j3B (nth (eS,0,false,false,0,0,eS) t.2.1 r) (nth (0,0,eS) d b) λj=>bif !j then i () else rec (Z9x (b+1)) else none else none else none else h ()
def j4l (b:List qV) (d:qL) (f:Int) (t:qB×qE×qL):Int->(Int->Res)->((Unit->Res)×(Unit->Res))->Res:=λv rec q=>j2i b d f t v (λg=>rec (g)) q.1 q.2
def jb6 (b:List qV) (d:qL) (f:Int) (t:qB×qE×qL) (n:Nat) (g:Int) (h:Unit->Res) (i:Unit->Res):Res:=Z1N (j4l b d f t) n (g) (h,i)
def jau:Z1q Unit:=NdL 40 40 [.R 1 y3 .S,.t 2 (pB 2),.R 19 y0 .S,.I 20,.I 21] [(2,y24,[.S,.S])] (λb d=>(b.2.2.2.1)) (λb v=>(b.1,b.2.1,b.2.2.1,v,())) (λd v=>((d.1.1,d.1.2),())) (λb d=>j4l b.1 b.2.1 b.2.2.1 d.1.2) λb d f=>((λ_=>f (.exit 0) [] []),(λ_=>f .ret [(4,vB false)] []))
theorem jjm:CN 0 58 Tryz.f313 jau:=lK jfu [] oN ([],[]) [(0,[],[])] ([4],[]) λ_ _ _ _ _=>by delta j4l j2i j26 j7q;refine gz j0B λ_ b=>gz j3B λ_ d=> ?_;rewrite [<-b,<-d];kernel_rfl
def j4k (t:qB×qE×qL) (b:List qV) (d:Bool->Res):Res:=j0o t λr=>bif !r then d false else bif ((nI (List.length b)) != (nI (List.length t.2.2))) then d false else jb6 b t.2.2 (nI (List.length t.2.2)) t Z1Y 0 (λ_=>d true) (λ_=>d false)
def jcf:Sig Unit:=sg [.look y24 true,.look y3 false] [false] [(y24,none),(y3,none)] [] λb f k=>j4k b.1 b.2.1 (λd=>k [wB d] [] [])
theorem jfM:SO 313 jcf:=fK (np:=0) jfu [jau] (oI 58 0 @jjm oN) false Tryz.func313 λ_ _ _ _=>by delta j4k j0W jau jb6;refine gz j0o λ_ b=>gz j4l λ_ d=> ?_;rewrite [<-b,<-d];kernel_rfl
def j1s (f:Int) (h:List qW) (g:Int) (d:List qW) (b:Int) (rec:qR->Int->Res) (i:qR->Res):Res:=bif decide (b<g) then bif inb b (List.length h) then bif (b != f) then j0t (nth [] h b) λr=>bif lim ((List.length d)+1) then rec (d++[r]) (Z9x (b+1)) else none else rec d (Z9x (b+1)) else none else i d
def j5S (b:Int) (h:List qW) (f:Int):(qR×Int)->(qR×Int->Res)->((qR->Res))->Res:=λv rec q=>j1s b h f v.1 v.2 (λd g=>rec (d,g)) q
def jaN (b:Int) (i:List qW) (f:Int) (n:Nat) (d:List qW) (g:Int) (h:qR->Res):Res:=Z1N (j5S b i f) n (d,g) (h)
def j9W:Z1q Unit:=NdL 26 26 [.I 1,.R 5 y26 .O,.R 9 y26 .S,.I 10,.I 11] [] (λb f=>(b.2.1,b.2.2.2.2.1)) (λb v=>(b.1,v.1,b.2.2.1,b.2.2.2.1,v.2,())) (λf v=>()) (λb f=>j5S b.1 b.2.2.1 b.2.2.2.1) λb f g=>((λd=>g (.exit 0) [(5,v1 y26 d .O)] []))
theorem jfq:CN 0 58 Tryz.f314 j9W:=lK (Z9H j3T Za2) [] oN ([],[]) [(0,[5],[])] ([],[]) λ_ _ _ _ _=>by kernel_rfl
def j1r (l:List qW) (b:Int) (f:qR->Res):Res:=jaN b l (nI (List.length l)) Z1Y [] 0 λd=>f d
def j7G:Sig Unit:=sg [.borrow y26 false,.borrow tI false] [false] [(y26,none),(tI,none)] [] λb f k=>j1r b.1 b.2.1 (λd=>k [w1 y26 d .O] [] [])
theorem jbi:SO 314 j7G:=fK (np:=0) (Z9H j3T Za2) [j9W] (oI 58 0 @jfq oN) false Tryz.func314 λ_ _ _ _=>by kernel_rfl
def j6l (t:qB×qE×qL) (l:List qW) (d:List qV) (r:List qV) (b:qR->Int->Res):Res:=j0r t l λh=>bif !h then b [] 1 else j1Y t r λi=>bif !i then b [] 2 else j1q t l d λf=>j4k t d λj=>bif !j then b [] 5 else bif decide (f<0) then b [] 5 else j1r l f λg=>j0s t r λk=>j1q t g k λm=>bif decide (m>=0) then b [] 3 else j2W t g r λn=>b n 0
def jfh:Sig Unit:=sg [.borrow y24 true,.borrow y26 false,.borrow y3 false,.borrow y3 true] [false,false] [(y24,none),(y26,none),(y3,none),(y3,none)] [] λb g k=>j6l b.1 b.2.1 b.2.2.1 b.2.2.2.1 (λd f=>k [w1 y26 d .O,wI f] [] [])
theorem jkp:SO 289 jfh:=fK (np:=0) (Z9H jbO (Z9H j3S (Z9H j62 (Z9H jbP (Z9H jf1 (Z9H jfM (Z9H jbi Za2))))))) [] oN false Tryz.func289 λ_ _ _ _=>by delta j6l j16 j6Y j9j jcf j7G j17 jb3;refine gz j0r λ_ b=>gz j1Y λ_ d=>gz j1q λ_ f=>gz j4k λ_ g=>gz j1r λ_ h=>gz j0s λ_ i=>gz j2W λ_ j=> ?_;rewrite [<-b,<-d,<-f,<-g,<-h,<-i,<-j];kernel_rfl
def j6j (t:qB×qE×qL) (l:List qW) (b:List qV) (d:qR->Int->Res):Res:=j0r t l λr=>bif !r then d [] 1 else j1q t l b λf=>j4k t b λg=>bif !g then d [] 5 else bif decide (f<0) then d [] 5 else j1r l f λh=>d h 0
def jff:Sig Unit:=sg [.borrow y24 true,.borrow y26 false,.borrow y3 false] [false,false] [(y24,none),(y26,none),(y3,none)] [] λb g k=>j6j b.1 b.2.1 b.2.2.1 (λd f=>k [w1 y26 d .O,wI f] [] [])
theorem jkn:SO 290 jff:=fK (np:=0) (Z9H jbO (Z9H j3S (Z9H jfM (Z9H jbi Za2)))) [] oN false Tryz.func290 λ_ _ _ _=>by delta j6j j16 j9j jcf j7G;refine gz j0r λ_ b=>gz j1q λ_ d=>gz j4k λ_ f=>gz j1r λ_ g=> ?_;rewrite [<-b,<-d,<-f,<-g];kernel_rfl
theorem j4T:FS [(172,j16),(210,j3s),(230,j26),(287,j4f)]:=(Z9H j3S (Z9H jbN (Z9H j4V (Z9H jcB Za2))))
def j4o (l:List qW) (t:qB×qE×qL) (d:qG) (b:Bool->Res):Res:=j0r t l λr=>bif !r then b true else j1X d λf=>bif !f then b true else bif sNe d.2.1 t.1 then b true else b (d.1==1)
def j1U:Z1q Unit:=Nd 106 106 [.R 1 y26 .S,.t 3 (pB 3),.t 5 (pB 5)] [(3,y24,[.S,.S]),(5,y13,[.S,.S])] λf b g=>j4o f.1 b.1.2 b.2.1.2 (λd=>g .normal [(1,v1 y26 f.1 .S),(3,pB 3),(5,pB 5),(37,vB d)] [(3,⟨y24,b.1.1,b.1.2,[.S,.S]⟩),(5,⟨y13,b.2.1.1,b.2.1.2,[.S,.S]⟩)])
theorem jhx:CN 0 12 Tryz.f291 j1U:=nK j4T [] oN ([1,3,5,37],[3,5]) [] ([],[]) λ_ _ _=>by delta j4o j16 j3s;refine gz j0r λ_ b=>gz j1X λ_ d=> ?_;rewrite [<-b,<-d];kernel_rfl
def j0w (g:Int) (f:List qV) (h:Int) (d:qG) (b:Int) (x:List qV) (rec:Int->qW->Res) (i:qW->Res):Res:=bif decide (b<h) then bif inb b (List.length f) then bif (d.1 != 4) then bif lim ((List.length x)+1) then rec (Z9x (b+1)) (x++[nth (0,0,eS) f b]) else none else bif (b != g) then bif lim ((List.length x)+1) then rec (Z9x (b+1)) (x++[nth (0,0,eS) f b]) else none else rec (Z9x (b+1)) x else none else i x
def j2D (b:Int) (f:List qV) (g:Int) (d:qG):(Int×qW)->(Int×qW->Res)->((qW->Res))->Res:=λv rec q=>j0w b f g d v.1 v.2 (λh x=>rec (h,x)) q
def j6D (b:Int) (f:List qV) (g:Int) (d:qG) (n:Nat) (h:Int) (x:List qV) (i:qW->Res):Res:=Z1N (j2D b f g d) n (h,x) (i)
def j3J:Z1q Unit:=NdL 106 106 [.t 5 (pB 5),.R 10 y26 .O,.I 11,.t 14 (pB 14),.R 54 y26 .S,.I 55,.I 56,.R 62 y3 .S,.I 63,.I 64] [(5,y13,[.S,.S]),(14,y3,[.O])] (λb d=>(b.2.2.2.2.2.2.2.1,d.2.1.2)) (λb v=>(b.1,b.2.1,b.2.2.1,b.2.2.2.1,b.2.2.2.2.1,b.2.2.2.2.2.1,b.2.2.2.2.2.2.1,v.1,())) (λd v=>((d.1.1,d.1.2),(d.2.1.1,v.2),())) (λb d=>j2D b.2.1 b.2.2.2.2.2.1 b.2.2.2.2.2.2.1 d.1.2) λb d f=>((λg=>f (.exit 2) [(5,pB 5),(10,v1 y26 b.1 .O),(11,vI b.2.1),(14,pB 14),(54,v1 y26 b.2.2.1 .S),(55,vI b.2.2.2.1),(56,vI b.2.2.2.2.1)] [(5,⟨y13,d.1.1,d.1.2,[.S,.S]⟩),(14,⟨y3,d.2.1.1,g,[.O]⟩)]))
theorem jhv:CN 0 1042842 Tryz.f291 j3J:=lK j4T [j1U] oN ([],[]) [(2,[5,10,11,14,54,55,56],[5,14])] ([],[]) λ_ _ _ _ _=>by kernel_rfl
def j6E (b:Bool) (d:qG) (x:List qV) (f:qW->Res):Res:=bif b then bif inb 0 (List.length d.2.2.1) then bif lim ((List.length x)+1) then f (x++[(nth (eS,0,false,false,0,0,eS) d.2.2.1 0).2.2.2.2]) else none else none else f x
def j5Y:Z1q Unit:=Nd 106 106 [.t 5 (pB 5),.R 10 y26 .O,.I 11,.t 14 (pB 14),.R 54 y26 .S,.I 55,.I 56,.B 86] [(5,y13,[.S,.S]),(14,y3,[.O])] λb d f=>j6E b.2.2.2.2.2.1 d.1.2 d.2.1.2 (λg=>f .normal [(5,pB 5),(10,v1 y26 b.1 .O),(11,vI b.2.1),(14,pB 14),(54,v1 y26 b.2.2.1 .S),(55,vI b.2.2.2.1),(56,vI b.2.2.2.2.1)] [(5,⟨y13,d.1.1,d.1.2,[.S,.S]⟩),(14,⟨y3,d.2.1.1,g,[.O]⟩)])
theorem jhy:CN 0 1042845 Tryz.f291 j5Y:=nK j4T [j1U,j3J] oN ([5,10,11,14,54,55,56],[5,14]) [] ([],[]) λ_ _ _=>by kernel_rfl
def j1y (h:Int) (g:List qW) (i:Int) (d:qG) (f:List qW) (b:Int) (rec:qR->Int->Res) (j:qR->Res):Res:=bif decide (b<i) then bif inb b (List.length g) then j6D h (nth [] g b) (nI (List.length (nth [] g b))) d Z1Y 0 [] λx=>j6E (d.1==3) d x λk=>bif (d.1 != 2) then bif lim ((List.length f)+1) then rec (f++[k]) (Z9x (b+1)) else none else rec f (Z9x (b+1)) else none else j f
def j2E (b:Int) (g:List qW) (h:Int) (d:qG):(qR×Int)->(qR×Int->Res)->((qR->Res))->Res:=λv rec q=>j1y b g h d v.1 v.2 (λf i=>rec (f,i)) q
def j9u (b:Int) (g:List qW) (h:Int) (d:qG) (n:Nat) (f:List qW) (i:Int) (j:qR->Res):Res:=Z1N (j2E b g h d) n (f,i) (j)
def j8J:Z1q Unit:=NdL 106 106 [.t 5 (pB 5),.R 10 y26 .O,.I 11,.R 54 y26 .S,.I 55,.I 56] [(5,y13,[.S,.S])] (λb d=>(b.1,b.2.2.2.2.1)) (λb v=>(v.1,b.2.1,b.2.2.1,b.2.2.2.1,v.2,())) (λd v=>((d.1.1,d.1.2),())) (λb d=>j2E b.2.1 b.2.2.1 b.2.2.2.1 d.1.2) λb d g=>((λf=>g (.exit 0) [(10,v1 y26 f .O)] []))
theorem jhw:CN 0 1018 Tryz.f291 j8J:=lK j4T [j1U,j3J,j5Y] (oI 922 1 @jhv (oI 925 2 @jhy oN)) ([],[]) [(0,[10],[])] ([],[]) λ_ _ _ _ _=>by delta j2E j1y j3J j5Y j6D;refine gz j2D λ_ b=>gz j6E λ_ d=> ?_;rewrite [<-b,<-d];kernel_rfl
def j5t (t:qB×qE×qL) (l:List qW) (d:qG) (b:qR->Int->Res):Res:=j4o l t d λi=>bif i then b [] 1 else j1E [t] d λr g=>bif (g != 0) then b [] g else j0B t d.2.2.2.2.1 λh=>j9u h l (nI (List.length l)) d Z1Y [] 0 λf=>b f 0
def je7:Sig Unit:=sg [.borrow y24 true,.borrow y26 false,.borrow y13 true] [false,false] [(y24,none),(y26,none),(y13,none)] [] λb g k=>j5t b.1 b.2.1 b.2.2.1 (λd f=>k [w1 y26 d .O,wI f] [] [])
theorem jiX:SO 291 je7:=fK (np:=0) j4T [j1U,j3J,j5Y,j8J] (oI 12 0 @jhx (oI 1018 3 @jhw oN)) false Tryz.func291 λ_ _ _ _=>by delta j5t j1U j4f j26 j8J j9u;refine gz j4o λ_ b=>gz j1E λ_ d=>gz j0B λ_ f=>gz j2E λ_ g=> ?_;rewrite [<-b,<-d,<-f,<-g];kernel_rfl
def j0O (l:List qV) (b:qW->Res):Res:=bif lim (0+(List.length l)) then b l else none
def j6x:Sig Unit:=sg [.borrow y3 false] [false] [(y3,none)] [] λd f k=>j0O d.1 (λb=>k [w1 y3 b .O] [] [])
theorem j6q:SO 178 j6x:=fK (np:=0) Za2 [] oN false Tryz.func178 λ_ _ _ _=>by kernel_rfl
def jaB (c:qB×Int×Bool×Bool×Int×Int×qB) (d:Int×Int×qB) (b:Bool->Res):Res:=j0U d λr=>bif r then bif (d.1==c.2.1) then b true else bif (d.1==0) then b (!c.2.2.1) else b false else b false
def jkP:Sig Unit:=sg [.look y7 true,.look y2 true] [false] [(y7,none),(y2,none)] [] λb f k=>jaB b.1 b.2.1 (λd=>k [wB d] [] [])
theorem jeW:SO 315 jkP:=fK (np:=0) (Z9H j6J Za2) [] oN false Tryz.func315 λ_ _ _ _=>by kernel_rfl
def j4c (d:List qV) (f:Int) (t:qB×qE×qL) (b:Int) (rec:Int->Res) (g:Unit->Res) (h:Unit->Res):Res:=bif decide (b<f) then bif inb b (List.length d) then bif inb b (List.length t.2.1) then jaB (nth (eS,0,false,false,0,0,eS) t.2.1 b) (nth (0,0,eS) d b) λr=>bif !r then h () else rec (Z9x (b+1)) else none else none else g ()
def j96 (b:List qV) (d:Int) (t:qB×qE×qL):Int->(Int->Res)->((Unit->Res)×(Unit->Res))->Res:=λv rec q=>j4c b d t v (λf=>rec (f)) q.1 q.2
def jf5 (b:List qV) (d:Int) (t:qB×qE×qL) (n:Nat) (f:Int) (g:Unit->Res) (h:Unit->Res):Res:=Z1N (j96 b d t) n (f) (g,h)
def jek:Z1q Unit:=NdL 31 31 [.t 2 (pB 2),.R 15 y3 .S,.I 16,.I 17] [(2,y24,[.S,.S])] (λb d=>(b.2.2.1)) (λb v=>(b.1,b.2.1,v,())) (λd v=>((d.1.1,d.1.2),())) (λb d=>j96 b.1 b.2.1 d.1.2) λb d f=>((λ_=>f (.exit 0) [] []),(λ_=>f .ret [(4,vB false)] []))
theorem jji:CN 0 58 Tryz.f293 jek:=lK (Z9H jeW Za2) [] oN ([],[]) [(0,[],[])] ([4],[]) λ_ _ _ _ _=>by kernel_rfl
def j2Q (t:qB×qE×qL) (r:List qV) (b:Bool->Res):Res:=bif ((nI (List.length r)) != (nI (List.length t.2.1))) then b false else jf5 r (nI (List.length r)) t Z1Y 0 (λ_=>b true) (λ_=>b false)
def j5f:Sig Unit:=sg [.look y24 true,.look y3 true] [false] [(y24,none),(y3,none)] [] λb f k=>j2Q b.1 b.2.1 (λd=>k [wB d] [] [])
theorem jbH:SO 293 j5f:=fK (np:=0) (Z9H jeW Za2) [jek] (oI 58 0 @jji oN) false Tryz.func293 λ_ _ _ _=>by kernel_rfl
def j4b (f:qL) (g:Int) (t:qB×qE×qL) (r:List qV) (d:List qV) (b:Int) (rec:qW->Int->Res) (i:qW->Res):Res:=bif decide (b<g) then bif inb b (List.length f) then j0f t (nth eS f b) λh=>bif inb h (List.length r) then bif lim ((List.length d)+1) then rec (d++[nth (0,0,eS) r h]) (Z9x (b+1)) else none else none else none else i d
def j95 (d:qL) (f:Int) (t:qB×qE×qL) (r:List qV):(qW×Int)->(qW×Int->Res)->((qW->Res))->Res:=λv rec q=>j4b d f t r v.1 v.2 (λb g=>rec (b,g)) q
def jf4 (d:qL) (f:Int) (t:qB×qE×qL) (r:List qV) (n:Nat) (b:List qV) (g:Int) (h:qW->Res):Res:=Z1N (j95 d f t r) n (b,g) (h)
def jej:Z1q Unit:=NdL 28 28 [.t 2 (pB 2),.t 3 (pB 3),.R 5 y3 .O,.R 10 y0 .S,.I 11,.I 12] [(2,y24,[.S,.S]),(3,y3,[.S])] (λb d=>(b.1,b.2.2.2.1)) (λb v=>(v.1,b.2.1,b.2.2.1,v.2,())) (λd v=>((d.1.1,d.1.2),(d.2.1.1,d.2.1.2),())) (λb d=>j95 b.2.1 b.2.2.1 d.1.2 d.2.1.2) λb d g=>((λf=>g (.exit 0) [(5,v1 y3 f .O)] []))
theorem jjh:CN 0 58 Tryz.f238 jej:=lK (Z9H j37 Za2) [] oN ([],[]) [(0,[5],[])] ([],[]) λ_ _ _ _ _=>by kernel_rfl
def j0A (t:qB×qE×qL) (r:List qV) (d:qW->Res):Res:=jf4 t.2.2 (nI (List.length t.2.2)) t r Z1Y [] 0 λb=>d b
def j1o:Sig Unit:=sg [.borrow y24 true,.borrow y3 true] [false] [(y24,none),(y3,none)] [] λb f k=>j0A b.1 b.2.1 (λd=>k [w1 y3 d .O] [] [])
theorem j6K:SO 238 j1o:=fK (np:=0) (Z9H j37 Za2) [jej] (oI 58 0 @jjh oN) false Tryz.func238 λ_ _ _ _=>by kernel_rfl
def j2t (a:List qV) (b:List qV) (i:Int) (rec:Int->Res) (d:Unit->Res) (f:Bool->Res):Res:=bif decide (i<(nI (List.length a))) then bif decide (i<(nI (List.length b))) then bif inb i (List.length a) then bif inb i (List.length b) then bif !(((nth (0,0,eS) a i).1==(nth (0,0,eS) b i).1)&&(((nth (0,0,eS) a i).2.1==(nth (0,0,eS) b i).2.1)&&(sEq (nth (0,0,eS) a i).2.2 (nth (0,0,eS) b i).2.2))) then bif inb i (List.length a) then bif inb i (List.length b) then j6Q (nth (0,0,eS) a i) (nth (0,0,eS) b i) λr=>f r else none else none else rec (Z9x (i+1)) else none else none else d () else d ()
def j7B (a:List qV) (b:List qV):Int->(Int->Res)->((Unit->Res)×(Bool->Res))->Res:=λv rec q=>j2t a b v (λi=>rec (i)) q.1 q.2
def jcJ (a:List qV) (b:List qV) (n:Nat) (i:Int) (d:Unit->Res) (f:Bool->Res):Res:=Z1N (j7B a b) n (i) (d,f)
def jcl:Z1q Unit:=NdL 41 41 [.R 0 y3 .S,.R 1 y3 .S,.I 5] [] (λb d=>(b.2.2.1)) (λb v=>(b.1,b.2.1,v,())) (λd v=>()) (λb d=>j7B b.1 b.2.1) λb d f=>((λ_=>f (.exit 0) [(0,v1 y3 b.1 .S),(1,v1 y3 b.2.1 .S)] []),(λg=>f .ret [(4,vB g)] []))
theorem jhg:CN 0 26 Tryz.f294 jcl:=lK (Z9H jdH Za2) [] oN ([],[]) [(0,[0,1],[])] ([4],[]) λ_ _ _ _ _=>by kernel_rfl
def j3a (a:List qV) (b:List qV) (d:Bool->Res):Res:=jcJ a b Z1Y 0 (λ_=>d (decide ((nI (List.length a))<(nI (List.length b))))) (λt=>d t)
def j5b:Sig Unit:=sg [.look y3 false,.look y3 false] [false] [(y3,none),(y3,none)] [] λb f k=>j3a b.1 b.2.1 (λd=>k [wB d] [] [])
theorem jdG:SO 294 j5b:=fK (np:=0) (Z9H jdH Za2) [jcl] (oI 26 0 @jhg oN) false Tryz.func294 λ_ _ _ _=>by kernel_rfl
theorem jeM:FS [(238,j1o),(268,j32),(293,j5f),(294,j5b)]:=(Z9H j6K (Z9H j4U (Z9H jbH (Z9H jdG Za2))))
def j1P (l:List qW) (d:List qW) (f:Int) (t:qB×qE×qL) (b:Int) (rec:Int->Res) (h:Unit->Res) (g:Unit->Res):Res:=bif decide (b<f) then bif inb b (List.length d) then j2Q t (nth [] d b) λr=>bif !r then g () else bif decide (b>0) then bif inb (Z9x (b-1)) (List.length l) then j0A t (nth [] l (Z9x (b-1))) λi=>j0A t (nth [] d b) λj=>j3a i j λk=>bif !k then g () else rec (Z9x (b+1)) else none else rec (Z9x (b+1)) else none else h ()
def j3b (l:List qW) (b:List qW) (d:Int) (t:qB×qE×qL):Int->(Int->Res)->((Unit->Res)×(Unit->Res))->Res:=λv rec q=>j1P l b d t v (λf=>rec (f)) q.1 q.2
def ja3 (l:List qW) (b:List qW) (d:Int) (t:qB×qE×qL) (n:Nat) (f:Int) (g:Unit->Res) (h:Unit->Res):Res:=Z1N (j3b l b d t) n (f) (g,h)
def j9C:Z1q Unit:=NdL 45 45 [.R 1 y26 .S,.t 2 (pB 2),.R 15 y26 .S,.I 16,.I 17] [(2,y24,[.S,.S])] (λb d=>(b.2.2.2.1)) (λb v=>(b.1,b.2.1,b.2.2.1,v,())) (λd v=>((d.1.1,d.1.2),())) (λb d=>j3b b.1 b.2.1 b.2.2.1 d.1.2) λb d f=>((λ_=>f (.exit 0) [] []),(λ_=>f .ret [(4,vB false)] []))
theorem jid:CN 0 58 Tryz.f251 j9C:=lK jeM [] oN ([],[]) [(0,[],[])] ([4],[]) λ_ _ _ _ _=>by delta j3b j1P j5f j1o j5b;refine gz j2Q λ_ b=>gz j0A λ_ d=>gz j3a λ_ f=> ?_;rewrite [<-b,<-d,<-f];kernel_rfl
def j0E (t:qB×qE×qL) (l:List qW) (b:Bool->Res):Res:=j0C t λr=>bif !r then b false else bif decide ((nI (List.length l))>60) then b false else ja3 l l (nI (List.length l)) t Z1Y 0 (λ_=>b true) (λ_=>b false)
def j1D:Sig Unit:=sg [.look y24 true,.look y26 false] [false] [(y24,none),(y26,none)] [] λb f k=>j0E b.1 b.2.1 (λd=>k [wB d] [] [])
theorem j61:SO 251 j1D:=fK (np:=0) jeM [j9C] (oI 58 0 @jid oN) false Tryz.func251 λ_ _ _ _=>by delta j0E j32 j9C ja3;refine gz j0C λ_ b=>gz j3b λ_ d=> ?_;rewrite [<-b,<-d];kernel_rfl
def j23 (f:List qW) (h:Int) (b:List qW) (d:Int) (rec:qR->Int->Res) (g:qR->Res):Res:=bif decide (d<h) then bif inb d (List.length f) then j0O (nth [] f d) λr=>bif lim ((List.length b)+1) then rec (b++[r]) (Z9x (d+1)) else none else none else g b
def j6R (d:List qW) (f:Int):(qR×Int)->(qR×Int->Res)->((qR->Res))->Res:=λv rec q=>j23 d f v.1 v.2 (λb g=>rec (b,g)) q
def jbW (f:List qW) (g:Int) (n:Nat) (b:List qW) (h:Int) (d:qR->Res):Res:=Z1N (j6R f g) n (b,h) (d)
def jbk:Z1q Unit:=NdL 21 21 [.R 3 y26 .O,.R 6 y26 .S,.I 7,.I 8] [] (λb f=>(b.1,b.2.2.2.1)) (λb v=>(v.1,b.2.1,b.2.2.1,v.2,())) (λf v=>()) (λb f=>j6R b.2.1 b.2.2.1) λb f g=>((λd=>g (.exit 0) [(3,v1 y26 d .O)] []))
theorem jgz:CN 0 58 Tryz.f232 jbk:=lK (Z9H j6q Za2) [] oN ([],[]) [(0,[3],[])] ([],[]) λ_ _ _ _ _=>by kernel_rfl
def j0m (l:List qW) (d:qR->Res):Res:=jbW l (nI (List.length l)) Z1Y [] 0 λb=>d b
def j0I:Sig Unit:=sg [.borrow y26 false] [false] [(y26,none)] [] λd f k=>j0m d.1 (λb=>k [w1 y26 b .O] [] [])
theorem j3Z:SO 232 j0I:=fK (np:=0) (Z9H j6q Za2) [jbk] (oI 58 0 @jgz oN) false Tryz.func232 λ_ _ _ _=>by kernel_rfl
theorem j7b:FS [(211,j3q),(232,j0I),(251,j1D),(284,j0D),(317,j5d),(324,j9S)]:=(Z9H jbE (Z9H j3Z (Z9H j61 (Z9H j37 (Z9H jdJ (Z9H jfo Za2))))))
def j48 (l:List qW) (t:qB×qE×qL) (d:qG) (b:Bool->Res):Res:=j0E t l λr=>bif !r then b true else j1V d λf=>bif !f then b true else bif sNe d.2.1 t.1 then b true else b (d.1==1)
def j3H:Z1q Unit:=Nd 98 98 [.R 1 y26 .S,.t 3 (pB 3),.t 5 (pB 5)] [(3,y24,[.S,.S]),(5,y13,[.S,.S])] λf b g=>j48 f.1 b.1.2 b.2.1.2 (λd=>g .normal [(1,v1 y26 f.1 .S),(3,pB 3),(5,pB 5),(33,vB d)] [(3,⟨y24,b.1.1,b.1.2,[.S,.S]⟩),(5,⟨y13,b.2.1.1,b.2.1.2,[.S,.S]⟩)])
theorem jhj:CN 0 12 Tryz.f298 j3H:=nK j7b [] oN ([1,3,5,33],[3,5]) [] ([],[]) λ_ _ _=>by delta j48 j1D j3q;refine gz j0E λ_ b=>gz j1V λ_ d=> ?_;rewrite [<-b,<-d];kernel_rfl
def j2u (g:Int) (d:qG) (f:List qW) (b:Int) (rec:qR->Int->Res) (h:qR->Res):Res:=bif decide (b<g) then bif inb b (List.length f) then bif inb 0 (List.length d.2.2.1) then bif lim ((List.length (nth [] f b))+1) then bif inb b (List.length (upd f b ((nth [] f b)++[(nth (eS,0,false,false,0,0,eS) d.2.2.1 0).2.2.2.2]))) then bif (Z9e (Int.toNat b) (Int.toNat b)&&true) then rec (upd f b ((nth [] f b)++[(nth (eS,0,false,false,0,0,eS) d.2.2.1 0).2.2.2.2])) (Z9x (b+1)) else none else none else none else none else none else h f
def j4z (f:Int) (d:qG):(qR×Int)->(qR×Int->Res)->((qR->Res))->Res:=λv rec q=>j2u f d v.1 v.2 (λb g=>rec (b,g)) q
def j6r (f:Int) (d:qG) (n:Nat) (b:List qW) (g:Int) (h:qR->Res):Res:=Z1N (j4z f d) n (b,g) (h)
def j5V:Z1q Unit:=NdL 98 98 [.t 5 (pB 5),.R 9 y26 .O,.I 51,.I 52] [(5,y13,[.S,.S])] (λb d=>(b.1,b.2.2.1)) (λb v=>(v.1,b.2.1,v.2,())) (λd v=>((d.1.1,d.1.2),())) (λb d=>j4z b.2.1 d.1.2) λb d g=>((λf=>g (.exit 1) [(9,v1 y26 f .O)] []))
theorem jhh:CN 0 16058 Tryz.f298 j5V:=lK j7b [j3H] oN ([],[]) [(1,[9],[])] ([],[]) λ_ _ _ _ _=>by kernel_rfl
def j2v (f:Int) (g:Int) (d:List qW) (b:Int) (rec:qR->Int->Res) (h:qR->Res):Res:=bif decide (b<g) then bif inb b (List.length d) then j7H (nth [] d b) f (Z9x (f+1)) λr=>bif inb b (List.length (upd d b r)) then bif (Z9e (Int.toNat b) (Int.toNat b)&&true) then rec (upd d b r) (Z9x (b+1)) else none else none else none else h d
def j4A (b:Int) (f:Int):(qR×Int)->(qR×Int->Res)->((qR->Res))->Res:=λv rec q=>j2v b f v.1 v.2 (λd g=>rec (d,g)) q
def j6s (b:Int) (f:Int) (n:Nat) (d:List qW) (g:Int) (h:qR->Res):Res:=Z1N (j4A b f) n (d,g) (h)
def j8D:Z1q Unit:=NdL 98 98 [.R 9 y26 .O,.I 11,.I 79,.I 80] [] (λb f=>(b.1,b.2.2.2.1)) (λb v=>(v.1,b.2.1,b.2.2.1,v.2,())) (λf v=>()) (λb f=>j4A b.2.1 b.2.2.1) λb f g=>((λd=>g (.exit 3) [(9,v1 y26 d .O)] []))
theorem jhi:CN 0 128502 Tryz.f298 j8D:=lK j7b [j3H,j5V] oN ([],[]) [(3,[9],[])] ([],[]) λ_ _ _ _ _=>by kernel_rfl
def j4Y (t:qB×qE×qL) (l:List qW) (d:qG) (b:qR->Int->Res):Res:=j48 l t d λj=>bif j then b [] 1 else j24 [t] d λr=>bif (r != 0) then b [] r else j0m l λg=>bif (d.1==2) then b [] 0 else bif (d.1==3) then j6r (nI (List.length g)) d Z1Y g 0 λh=>b h 0 else bif (d.1==4) then j0f t d.2.2.2.2.1 λi=>j6s i (nI (List.length g)) Z1Y g 0 λf=>b f 0 else b g 0
def jae:Sig Unit:=sg [.borrow y24 true,.borrow y26 false,.borrow y13 true] [false,false] [(y24,none),(y26,none),(y13,none)] [] λb g k=>j4Y b.1 b.2.1 b.2.2.1 (λd f=>k [w1 y26 d .O,wI f] [] [])
theorem jiQ:SO 298 jae:=fK (np:=0) j7b [j3H,j5V,j8D] (oI 12 0 @jhj (oI 16058 1 @jhh (oI 128502 2 @jhi oN))) false Tryz.func298 λ_ _ _ _=>by delta j4Y j3H j5d j0I j5V j0D j8D j6r j6s;refine gz j48 λ_ b=>gz j24 λ_ d=>gz j0m λ_ f=>gz j4z λ_ g=>gz j0f λ_ h=>gz j4A λ_ i=> ?_;rewrite [<-b,<-d,<-f,<-g,<-h,<-i];kernel_rfl
def jaA (r:List qV) (g:qB×qE×qL) (h:List qV) (b:Bool->Res):Res:=j0A g r λd=>j1c d h λf=>b f
def jkO:Sig Unit:=sg [.look y3 true,.rptr y24,.rptr y3] [false] [(y3,none),(y24,none),(y3,none)] [] λb f k=>jaA b.1 b.2.1 b.2.2.1 (λd=>k [wB d] [] [])
theorem jeV:SO 237 jkO:=fK (np:=0) (Z9H jaE (Z9H j6K Za2)) [] oN false Tryz.func237 λ_ _ _ _=>by delta jaA j1o j4e;refine gz j0A λ_ b=>gz j1c λ_ d=> ?_;rewrite [<-b,<-d];kernel_rfl
def j0K (s:List qW) (f:qT×List qV) (h:Int) (b:Int) (rec:Int->Res) (d:Unit->Res) (g:Int->Res):Res:=bif decide (b<h) then bif inb b (List.length s) then jaA (nth [] s b) f.1 f.2 λr=>bif r then g b else rec (Z9x (b+1)) else none else d ()
def j2S (s:List qW) (f:qT×List qV) (b:Int):Int->(Int->Res)->((Unit->Res)×(Int->Res))->Res:=λv rec q=>j0K s f b v (λd=>rec (d)) q.1 q.2
def j7x (s:List qW) (f:qT×List qV) (g:Int) (n:Nat) (h:Int) (b:Unit->Res) (d:Int->Res):Res:=Z1N (j2S s f g) n (h) (b,d)
def j77:Z1q Unit:=NdL 19 19 [.R 0 y26 .S,.c 1 237 [y24,y3] y29 [.S,.S,.S],.I 7,.I 8] [] (λb d=>(b.2.2.2.1)) (λb v=>(b.1,b.2.1,b.2.2.1,v,())) (λd v=>()) (λb d=>j2S b.1 b.2.1 b.2.2.1) λb d f=>((λ_=>f (.exit 0) [] []),(λg=>f .ret [(4,vI g)] []))
theorem jc6:CN 0 26 Tryz.f236 j77:=lK (Z9H jeV Za2) [] oN ([],[]) [(0,[],[])] ([4],[]) λ_ _ _ _ _=>by kernel_rfl
def j5N (s:List qW) (f:qT×List qV) (b:Int->Res):Res:=j7x s f (nI (List.length s)) Z1Y 0 (λ_=>b (-1)) (λt=>b t)
def jdt:Sig Unit:=sg [.look y26 false,.rclos 237 [y24,y3]] [false] [(y26,none),(y29,none)] [] λb f k=>j5N b.1 b.2.1 (λd=>k [wI d] [] [])
theorem jdh:SO 236 jdt:=fK (np:=0) (Z9H jeV Za2) [j77] (oI 26 0 @jc6 oN) false Tryz.func236 λ_ _ _ _=>by kernel_rfl
def j0V (t:qB×qE×qL) (l:List qW) (b:List qV) (d:Int->Res):Res:=j5N l (t,b) λr=>d r
def j5e:Sig Unit:=sg [.look y24 true,.look y26 false,.look y3 false] [false] [(y24,none),(y26,none),(y3,none)] [] λb f k=>j0V b.1 b.2.1 b.2.2.1 (λd=>k [wI d] [] [])
theorem jbG:SO 177 j5e:=fK (np:=0) (Z9H jdh Za2) [] oN false Tryz.func177 λ_ _ _ _=>by kernel_rfl
theorem jeP:FS [(178,j6x),(232,j0I),(238,j1o),(294,j5b),(325,j6o)]:=(Z9H j6q (Z9H j3Z (Z9H j6K (Z9H jdG (Z9H jfp Za2)))))
def j1Q (l:List qW) (t:qB×qE×qL) (r:List qV) (b:Int) (rec:Int->Res) (d:Int->Res):Res:=bif decide (b<(nI (List.length l))) then bif inb b (List.length l) then j0A t (nth [] l b) λf=>j0A t r λg=>j3a f g λh=>bif h then rec (Z9x (b+1)) else d b else none else d b
def j3f (l:List qW) (t:qB×qE×qL) (r:List qV):Int->(Int->Res)->((Int->Res))->Res:=λv rec q=>j1Q l t r v (λb=>rec (b)) q
def ja6 (l:List qW) (t:qB×qE×qL) (r:List qV) (n:Nat) (b:Int) (d:Int->Res):Res:=Z1N (j3f l t r) n (b) (d)
def j9G:Z1q Unit:=NdL 35 35 [.R 1 y26 .S,.t 3 (pB 3),.t 5 (pB 5),.I 7] [(3,y24,[.S,.S]),(5,y3,[.S])] (λd b=>(d.2.1)) (λd v=>(d.1,v,())) (λb v=>((b.1.1,b.1.2),(b.2.1.1,b.2.1.2),())) (λd b=>j3f d.1 b.1.2 b.2.1.2) λd b g=>((λf=>g (.exit 0) [(1,v1 y26 d.1 .S),(5,pB 5),(7,vI f)] [(5,⟨y3,b.2.1.1,b.2.1.2,[.S]⟩)]))
theorem jih:CN 0 28 Tryz.f299 j9G:=lK jeP [] oN ([],[]) [(0,[1,5,7],[5])] ([],[]) λ_ _ _ _ _=>by delta j3f j1Q j1o j5b;refine gz j0A λ_ b=>gz j3a λ_ d=> ?_;rewrite [<-b,<-d];kernel_rfl
def j1W (t:qB×qE×qL) (l:List qW) (r:List qV) (d:qR->Res):Res:=ja6 l t r Z1Y 0 λb=>j0m l λf=>j0O r λg=>j4D f b [g] λh=>d h
def j8c:Sig Unit:=sg [.borrow y24 true,.borrow y26 false,.borrow y3 true] [false] [(y24,none),(y26,none),(y3,none)] [] λb f k=>j1W b.1 b.2.1 b.2.2.1 (λd=>k [w1 y26 d .O] [] [])
theorem jeU:SO 299 j8c:=fK (np:=0) jeP [j9G] (oI 28 0 @jih oN) false Tryz.func299 λ_ _ _ _=>by delta j1W j9G j0I j6x j6o ja6;refine gz j3f λ_ b=>gz j0m λ_ d=>gz j0O λ_ f=>gz j4D λ_ g=> ?_;rewrite [<-b,<-d,<-f,<-g];kernel_rfl
def j6d (t:qB×qE×qL) (l:List qW) (r:List qV) (b:qR->Int->Res):Res:=j0E t l λd=>bif !d then b [] 1 else j2Q t r λf=>bif !f then b [] 2 else j0A t r λg=>j0V t l g λh=>bif decide (h>=0) then b [] 3 else bif ((nI (List.length l))==60) then b [] 4 else j1W t l r λi=>b i 0
def jb0:Sig Unit:=sg [.borrow y24 true,.borrow y26 false,.borrow y3 true] [false,false] [(y24,none),(y26,none),(y3,none)] [] λb g k=>j6d b.1 b.2.1 b.2.2.1 (λd f=>k [w1 y26 d .O,wI f] [] [])
theorem jkc:SO 253 jb0:=fK (np:=0) (Z9H jbG (Z9H j6K (Z9H j61 (Z9H jbH (Z9H jeU Za2))))) [] oN false Tryz.func253 λ_ _ _ _=>by delta j6d j1D j5f j1o j5e j8c;refine gz j0E λ_ b=>gz j2Q λ_ d=>gz j0A λ_ f=>gz j0V λ_ g=>gz j1W λ_ h=> ?_;rewrite [<-b,<-d,<-f,<-g,<-h];kernel_rfl
theorem jfs:FS [(268,j32),(273,j6V),(284,j0D)]:=(Z9H j4U (Z9H j6J (Z9H j37 Za2)))
def j2c (d:List qV) (f:qL) (g:Int) (t:qB×qE×qL) (b:Int) (rec:Int->Res) (j:Unit->Res) (h:Unit->Res):Res:=bif decide (b<g) then bif inb b (List.length f) then bif inb b (List.length d) then j0U (nth (0,0,eS) d b) λr=>bif !r then h () else bif inb b (List.length d) then j0f t (nth eS f b) λi=>bif inb i (List.length t.2.1) then bif ((nth (0,0,eS) d b).1 != (nth (eS,0,false,false,0,0,eS) t.2.1 i).2.1) then h () else rec (Z9x (b+1)) else none else none else none else none else j ()
def j47 (b:List qV) (d:qL) (f:Int) (t:qB×qE×qL):Int->(Int->Res)->((Unit->Res)×(Unit->Res))->Res:=λv rec q=>j2c b d f t v (λg=>rec (g)) q.1 q.2
def jaV (b:List qV) (d:qL) (f:Int) (t:qB×qE×qL) (n:Nat) (g:Int) (h:Unit->Res) (i:Unit->Res):Res:=Z1N (j47 b d f t) n (g) (h,i)
def jas:Z1q Unit:=NdL 49 49 [.R 1 y3 .S,.t 2 (pB 2),.R 19 y0 .S,.I 20,.I 21] [(2,y24,[.S,.S])] (λb d=>(b.2.2.2.1)) (λb v=>(b.1,b.2.1,b.2.2.1,v,())) (λd v=>((d.1.1,d.1.2),())) (λb d=>j47 b.1 b.2.1 b.2.2.1 d.1.2) λb d f=>((λ_=>f (.exit 0) [] []),(λ_=>f .ret [(4,vB false)] []))
theorem jjg:CN 0 58 Tryz.f300 jas:=lK jfs [] oN ([],[]) [(0,[],[])] ([4],[]) λ_ _ _ _ _=>by delta j47 j2c j6V j0D;refine gz j0U λ_ b=>gz j0f λ_ d=> ?_;rewrite [<-b,<-d];kernel_rfl
def j46 (t:qB×qE×qL) (b:List qV) (d:Bool->Res):Res:=j0C t λr=>bif !r then d false else bif ((nI (List.length b)) != (nI (List.length t.2.2))) then d false else jaV b t.2.2 (nI (List.length t.2.2)) t Z1Y 0 (λ_=>d true) (λ_=>d false)
def j9i:Sig Unit:=sg [.look y24 true,.look y3 false] [false] [(y24,none),(y3,none)] [] λb f k=>j46 b.1 b.2.1 (λd=>k [wB d] [] [])
theorem jfA:SO 300 j9i:=fK (np:=0) jfs [jas] (oI 58 0 @jjg oN) false Tryz.func300 λ_ _ _ _=>by delta j46 j32 jas jaV;refine gz j0C λ_ b=>gz j47 λ_ d=> ?_;rewrite [<-b,<-d];kernel_rfl
theorem jeL:FS [(128,j4e),(177,j5e),(232,j0I),(238,j1o),(251,j1D),(293,j5f),(299,j8c),(300,j9i),(301,j3M)]:=(Z9H jaE (Z9H jbG (Z9H j3Z (Z9H j6K (Z9H j61 (Z9H jbH (Z9H jeU (Z9H jfA (Z9H j9P Za2)))))))))
def j4X (l:List qW) (b:List qV) (now:List qV) (t:qB×qE×qL) (d:Unit->Res) (f:Unit->Res):Res:=j1c now b λg=>bif !g then j0V t l now λh=>bif decide (h>=0) then f () else d () else d ()
def j9B:Z1q Unit:=Nd 61 61 [.R 1 y26 .S,.R 2 y3 .S,.t 4 (pB 4),.t 7 (pB 7),.R 10 y3 .O] [(4,y24,[.S,.S]),(7,y3,[.S])] λb d f=>j4X b.1 b.2.1 b.2.2.1 d.1.2 (λ_=>f .normal [(1,v1 y26 b.1 .S),(2,v1 y3 b.2.1 .S),(4,pB 4),(7,pB 7)] [(4,⟨y24,d.1.1,d.1.2,[.S,.S]⟩),(7,⟨y3,d.2.1.1,d.2.1.2,[.S]⟩)]) (λ_=>f .ret [(8,v1 y26 [] .O),(9,vI 3)] [])
theorem jic:CN 0 30 Tryz.f254 j9B:=nK jeL [] oN ([1,2,4,7],[4,7]) [] ([8,9],[]) λ_ _ _=>by delta j4X j4e j5e;refine gz j1c λ_ b=>gz j0V λ_ d=> ?_;rewrite [<-b,<-d];kernel_rfl
def j6e (t:qB×qE×qL) (l:List qW) (b:List qV) (r:List qV) (d:qR->Int->Res):Res:=j0E t l λg=>bif !g then d [] 1 else j2Q t r λh=>bif !h then d [] 2 else j46 t b λi=>bif !i then d [] 5 else j0V t l b λj=>bif decide (j<0) then d [] 5 else j0A t r λk=>j4X l b k t (λ_=>j0V t l b λf=>j0m l λm=>j0G m f (Z9x (f+1)) λn=>j1W t n r λp=>d p 0) (λ_=>d [] 3)
def jb1:Sig Unit:=sg [.borrow y24 true,.borrow y26 false,.borrow y3 false,.borrow y3 true] [false,false] [(y24,none),(y26,none),(y3,none),(y3,none)] [] λb g k=>j6e b.1 b.2.1 b.2.2.1 b.2.2.2.1 (λd f=>k [w1 y26 d .O,wI f] [] [])
theorem jkd:SO 254 jb1:=fK (np:=0) jeL [j9B] (oI 30 0 @jic oN) false Tryz.func254 λ_ _ _ _=>by delta j6e j1D j5f j9i j5e j1o j9B j0I j3M j8c;refine gz j0E λ_ b=>gz j2Q λ_ d=>gz j46 λ_ f=>gz j0V λ_ g=>gz j0A λ_ h=>gz j4X λ_ i=>gz j0m λ_ j=>gz j0G λ_ k=>gz j1W λ_ l=> ?_;rewrite [<-b,<-d,<-f,<-g,<-h,<-i,<-j,<-k,<-l];kernel_rfl
def j6c (t:qB×qE×qL) (l:List qW) (b:List qV) (d:qR->Int->Res):Res:=j0E t l λr=>bif !r then d [] 1 else j46 t b λg=>bif !g then d [] 5 else j0V t l b λh=>bif decide (h<0) then d [] 5 else j0V t l b λf=>j0m l λi=>j0G i f (Z9x (f+1)) λj=>d j 0
def jaZ:Sig Unit:=sg [.borrow y24 true,.borrow y26 false,.borrow y3 false] [false,false] [(y24,none),(y26,none),(y3,none)] [] λb g k=>j6c b.1 b.2.1 b.2.2.1 (λd f=>k [w1 y26 d .O,wI f] [] [])
theorem jkb:SO 255 jaZ:=fK (np:=0) (Z9H jbG (Z9H j3Z (Z9H j61 (Z9H jfA (Z9H j9P Za2))))) [] oN false Tryz.func255 λ_ _ _ _=>by delta j6c j1D j9i j5e j0I j3M;refine gz j0E λ_ b=>gz j46 λ_ d=>gz j0V λ_ f=>gz j0m λ_ g=>gz j0G λ_ h=> ?_;rewrite [<-b,<-d,<-f,<-g,<-h];kernel_rfl
end
end Go.PI.G
