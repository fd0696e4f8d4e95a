/-
  Program's code interpreted over typed values; printed texts; plain laws. No conditions.
-/
import Derived.Test.YtnemiodjnhfejaaGreatSQc
import Derived.Test.YtnemiodjnhfejaaGreatSQd
import Derived.Test.YtnemiodjnhfejaaGreatSQe
set_option linter.unusedVariables false
set_option maxRecDepth 100000
namespace Go.PI.G
noncomputable section
open Go Go.PI Go.Proofs
open Go.Code (pl pr)
def j4Y (c:qB×Int×Bool×Bool×Int×Int×qB) (d:Int×Int×qB) (b:Bool->Res):Res:=bif (d.1==0) then j1H d λr=>bif r then b (!c.2.2.1) else b false else j1H d λf=>bif f then b (d.1==c.2.1) else b false
def j9n:Sig Unit:=sg [.look y7 true,.look y2 true] [false] [(y7,none),(y2,none)] [] λb f k=>j4Y b.1 b.2.1 (λd=>k [wB d] [] [])
theorem jgv:SO 281 j9n:=fK (np:=0) (Za6 j8p Zas) [] oN false Tryz.func281 λ_ _ _ _=>by delta j4Y jbq;refine gz j1H λ_ b=> ?_;rewrite [<-b];kernel_rfl
theorem jic:FS [(227,j0W),(281,j9n)]:=(Za6 j0J (Za6 jgv Zas))
def j5R (d:List qC) (f:Int) (r:List qV) (b:Int) (rec:Int->Res) (g:Unit->Res) (h:Unit->Res):Res:=bif decide (b<f) then bif inb b (List.length d) then bif inb b (List.length r) then j4Y (nth (eS,0,false,false,0,0,eS) d b) (nth (0,0,eS) r b) λi=>bif !i then h () else rec (Z9K (b+1)) else none else none else g ()
def j8h (b:List qC) (d:Int) (r:List qV):Int->(Int->Res)->((Unit->Res)×(Unit->Res))->Res:=λv rec q=>j5R b d r v (λf=>rec (f)) q.1 q.2
def jdq (b:List qC) (d:Int) (r:List qV) (n:Nat) (f:Int) (g:Unit->Res) (h:Unit->Res):Res:=Z1f (j8h b d r) n (f) (g,h)
def jcv:Z1d Unit:=NdL 36 36 [.t 3 (pB 3),.R 20 y8 .S,.I 21,.I 22] [(3,y3,[.S])] (λb d=>(b.2.2.1)) (λb v=>(b.1,b.2.1,v,())) (λd v=>((d.1.1,d.1.2),())) (λb d=>j8h b.1 b.2.1 d.1.2) λb d f=>((λ_=>f (.exit 0) [] []),(λ_=>f .ret [(4,vB false)] []))
theorem jmK:CN 0 58 Tryz.f228 jcv:=lK jic [] oN ([],[]) [(0,[],[])] ([4],[]) λ_ _ _ _ _=>by kernel_rfl
def j2N (t:qB×qE×qL) (r:List qV) (b:Bool->Res):Res:=j0o t λd=>bif !d then b false else bif ((nI (List.length r)) != (nI (List.length t.2.1))) then b false else jdq t.2.1 (nI (List.length t.2.1)) r Z1c 0 (λ_=>b true) (λ_=>b false)
def j8S:Sig Unit:=sg [.look y10 true,.look y3 true] [false] [(y10,none),(y3,none)] [] λb f k=>j2N b.1 b.2.1 (λd=>k [wB d] [] [])
theorem jen:SO 228 j8S:=fK (np:=0) jic [jcv] (oI 58 0 @jmK oN) false Tryz.func228 λ_ _ _ _=>by delta j2N j0W jcv jdq;refine gz j0o λ_ b=>gz j8h λ_ d=> ?_;rewrite [<-b,<-d];kernel_rfl
def j4Z (f:qL) (g:Int) (t:qB×qE×qL) (r:List qV) (d:List qV) (b:Int) (rec:qW->Int->Res) (i:qW->Res):Res:=bif decide (b<g) then bif inb b (List.length f) then j0Q t (nth eS f b) λh=>bif inb h (List.length r) then bif lim ((List.length d)+1) then rec (d++[nth (0,0,eS) r h]) (Z9K (b+1)) else none else none else none else i d
def jaz (d:qL) (f:Int) (t:qB×qE×qL) (r:List qV):(qW×Int)->(qW×Int->Res)->((qW->Res))->Res:=λv rec q=>j4Z d f t r v.1 v.2 (λb g=>rec (b,g)) q
def jgR (d:qL) (f:Int) (t:qB×qE×qL) (r:List qV) (n:Nat) (b:List qV) (g:Int) (h:qW->Res):Res:=Z1f (jaz d f t r) n (b,g) (h)
def jfR:Z1d Unit:=NdL 28 28 [.t 2 (pB 2),.t 3 (pB 3),.R 5 y3 .O,.R 10 y0 .S,.I 11,.I 12] [(2,y10,[.S,.S]),(3,y3,[.S])] (λb d=>(b.1,b.2.2.2.1)) (λb v=>(v.1,b.2.1,b.2.2.1,v.2,())) (λd v=>((d.1.1,d.1.2),(d.2.1.1,d.2.1.2),())) (λb d=>jaz b.2.1 b.2.2.1 d.1.2 d.2.1.2) λb d g=>((λf=>g (.exit 0) [(5,v1 y3 f .O)] []))
theorem jlP:CN 0 58 Tryz.f173 jfR:=lK (Za6 j6w Zas) [] oN ([],[]) [(0,[5],[])] ([],[]) λ_ _ _ _ _=>by kernel_rfl
def j0e (t:qB×qE×qL) (r:List qV) (d:qW->Res):Res:=jgR t.2.2 (nI (List.length t.2.2)) t r Z1c [] 0 λb=>d b
def j0C:Sig Unit:=sg [.borrow y10 true,.borrow y3 true] [false] [(y10,none),(y3,none)] [] λb f k=>j0e b.1 b.2.1 (λd=>k [w1 y3 d .O] [] [])
theorem j5j:SO 173 j0C:=fK (np:=0) (Za6 j6w Zas) [jfR] (oI 58 0 @jlP oN) false Tryz.func173 λ_ _ _ _=>by kernel_rfl
def j3S (a:List qV) (b:List qV) (i:Int) (rec:Int->Res) (d:Unit->Res) (f:Bool->Res):Res:=bif decide (i<(nI (List.length a))) then bif decide (i<(nI (List.length b))) then bif inb i (List.length a) then bif inb i (List.length b) then bif !(((nth (0,0,eS) a i).1==(nth (0,0,eS) b i).1)&&(((nth (0,0,eS) a i).2.1==(nth (0,0,eS) b i).2.1)&&(sEq (nth (0,0,eS) a i).2.2 (nth (0,0,eS) b i).2.2))) then bif inb i (List.length a) then bif inb i (List.length b) then j8W (nth (0,0,eS) a i) (nth (0,0,eS) b i) λr=>f r else none else none else rec (Z9K (i+1)) else none else none else d () else d ()
def j9H (a:List qV) (b:List qV):Int->(Int->Res)->((Unit->Res)×(Bool->Res))->Res:=λv rec q=>j3S a b v (λi=>rec (i)) q.1 q.2
def jfz (a:List qV) (b:List qV) (n:Nat) (i:Int) (d:Unit->Res) (f:Bool->Res):Res:=Z1f (j9H a b) n (i) (d,f)
def jf4:Z1d Unit:=NdL 41 41 [.R 0 y3 .S,.R 1 y3 .S,.I 5] [] (λb d=>(b.2.2.1)) (λb v=>(b.1,b.2.1,v,())) (λd v=>()) (λb d=>j9H b.1 b.2.1) λb d f=>((λ_=>f (.exit 0) [(0,v1 y3 b.1 .S),(1,v1 y3 b.2.1 .S)] []),(λg=>f .ret [(4,vB g)] []))
theorem jkO:CN 0 26 Tryz.f229 jf4:=lK (Za6 jgs Zas) [] oN ([],[]) [(0,[0,1],[])] ([4],[]) λ_ _ _ _ _=>by kernel_rfl
def j4S (a:List qV) (b:List qV) (d:Bool->Res):Res:=jfz a b Z1c 0 (λ_=>d (decide ((nI (List.length a))<(nI (List.length b))))) (λt=>d t)
def j6V:Sig Unit:=sg [.look y3 false,.look y3 false] [false] [(y3,none),(y3,none)] [] λb f k=>j4S b.1 b.2.1 (λd=>k [wB d] [] [])
theorem jgr:SO 229 j6V:=fK (np:=0) (Za6 jgs Zas) [jf4] (oI 26 0 @jkO oN) false Tryz.func229 λ_ _ _ _=>by kernel_rfl
theorem jhw:FS [(173,j0C),(227,j0W),(228,j8S),(229,j6V)]:=(Za6 j5j (Za6 j0J (Za6 jen (Za6 jgr Zas))))
def j2H (l:List qW) (d:List qW) (f:Int) (t:qB×qE×qL) (b:Int) (rec:Int->Res) (h:Unit->Res) (g:Unit->Res):Res:=bif decide (b<f) then bif inb b (List.length d) then j2N t (nth [] d b) λr=>bif !r then g () else bif decide (b>0) then bif inb (Z9K (b-1)) (List.length l) then j0e t (nth [] l (Z9K (b-1))) λi=>j0e t (nth [] d b) λj=>j4S i j λk=>bif !k then g () else rec (Z9K (b+1)) else none else rec (Z9K (b+1)) else none else h ()
def j4T (l:List qW) (b:List qW) (d:Int) (t:qB×qE×qL):Int->(Int->Res)->((Unit->Res)×(Unit->Res))->Res:=λv rec q=>j2H l b d t v (λf=>rec (f)) q.1 q.2
def jcl (l:List qW) (b:List qW) (d:Int) (t:qB×qE×qL) (n:Nat) (f:Int) (g:Unit->Res) (h:Unit->Res):Res:=Z1f (j4T l b d t) n (f) (g,h)
def jbL:Z1d Unit:=NdL 45 45 [.R 1 y12 .S,.t 2 (pB 2),.R 15 y12 .S,.I 16,.I 17] [(2,y10,[.S,.S])] (λb d=>(b.2.2.2.1)) (λb v=>(b.1,b.2.1,b.2.2.1,v,())) (λd v=>((d.1.1,d.1.2),())) (λb d=>j4T b.1 b.2.1 b.2.2.1 d.1.2) λb d f=>((λ_=>f (.exit 0) [] []),(λ_=>f .ret [(4,vB false)] []))
theorem jlJ:CN 0 58 Tryz.f172 jbL:=lK jhw [] oN ([],[]) [(0,[],[])] ([4],[]) λ_ _ _ _ _=>by delta j4T j2H j8S j0C j6V;refine gz j2N λ_ b=>gz j0e λ_ d=>gz j4S λ_ f=> ?_;rewrite [<-b,<-d,<-f];kernel_rfl
def j0q (t:qB×qE×qL) (l:List qW) (b:Bool->Res):Res:=j0o t λr=>bif !r then b false else bif decide ((nI (List.length l))>60) then b false else jcl l l (nI (List.length l)) t Z1c 0 (λ_=>b true) (λ_=>b false)
def j0U:Sig Unit:=sg [.look y10 true,.look y12 false] [false] [(y10,none),(y12,none)] [] λb f k=>j0q b.1 b.2.1 (λd=>k [wB d] [] [])
theorem j3t:SO 172 j0U:=fK (np:=0) jhw [jbL] (oI 58 0 @jlJ oN) false Tryz.func172 λ_ _ _ _=>by delta j0q j0W jbL jcl;refine gz j0o λ_ b=>gz j4T λ_ d=> ?_;rewrite [<-b,<-d];kernel_rfl
def j0n (r:List qV) (b:qW->Res):Res:=bif lim (0+(List.length r)) then b r else none
def j2k:Sig Unit:=sg [.borrow y3 true] [true] [(y3,none)] [] λd f k=>j0n d.1 (λb=>k [⟨y3,true,b,[.O]⟩] [] [])
theorem j5k:SO 115 j2k:=fK (np:=0) Zas [] oN false Tryz.func115 λ_ _ _ _=>by kernel_rfl
def j40 (f:List qW) (h:Int) (b:List qW) (d:Int) (rec:qR->Int->Res) (g:qR->Res):Res:=bif decide (d<h) then bif inb d (List.length f) then j0n (nth [] f d) λr=>bif lim ((List.length b)+1) then rec (b++[r]) (Z9K (d+1)) else none else none else g b
def j9L (d:List qW) (f:Int):(qR×Int)->(qR×Int->Res)->((qR->Res))->Res:=λv rec q=>j40 d f v.1 v.2 (λb g=>rec (b,g)) q
def jfB (f:List qW) (g:Int) (n:Nat) (b:List qW) (h:Int) (d:qR->Res):Res:=Z1f (j9L f g) n (b,h) (d)
def jf6:Z1d Unit:=NdL 20 20 [.R 3 y12 .O,.R 7 y12 .S,.I 8,.I 9] [] (λb f=>(b.1,b.2.2.2.1)) (λb v=>(v.1,b.2.1,b.2.2.1,v.2,())) (λf v=>()) (λb f=>j9L b.2.1 b.2.2.1) λb f g=>((λd=>g (.exit 0) [(3,v1 y12 d .O)] []))
theorem jkX:CN 0 58 Tryz.f244 jf6:=lK (Za6 j5k Zas) [] oN ([],[]) [(0,[3],[])] ([],[]) λ_ _ _ _ _=>by kernel_rfl
def j75 (l:List qW) (d:qR->Res):Res:=jfB l (nI (List.length l)) Z1c [] 0 λb=>d b
def j9m:Sig Unit:=sg [.borrow y12 false] [false] [(y12,none)] [] λd f k=>j75 d.1 (λb=>k [w1 y12 b .O] [] [])
theorem jgu:SO 244 j9m:=fK (np:=0) (Za6 j5k Zas) [jf6] (oI 58 0 @jkX oN) false Tryz.func244 λ_ _ _ _=>by kernel_rfl
def j21 (a:List qV) (b:List qV) (f:Int) (d:Int) (rec:Int->Res) (g:Unit->Res) (h:Unit->Res):Res:=bif decide (d<f) then bif inb d (List.length a) then bif inb d (List.length b) then bif !(((nth (0,0,eS) a d).1==(nth (0,0,eS) b d).1)&&(((nth (0,0,eS) a d).2.1==(nth (0,0,eS) b d).2.1)&&(sEq (nth (0,0,eS) a d).2.2 (nth (0,0,eS) b d).2.2))) then h () else rec (Z9K (d+1)) else none else none else g ()
def j77 (a:List qV) (b:List qV) (d:Int):Int->(Int->Res)->((Unit->Res)×(Unit->Res))->Res:=λv rec q=>j21 a b d v (λf=>rec (f)) q.1 q.2
def jbX (a:List qV) (b:List qV) (d:Int) (n:Nat) (f:Int) (g:Unit->Res) (h:Unit->Res):Res:=Z1f (j77 a b d) n (f) (g,h)
def jbP:Z1d Unit:=NdL 26 26 [.R 0 y3 .S,.R 1 y3 .S,.I 12,.I 13] [] (λb d=>(b.2.2.2.1)) (λb v=>(b.1,b.2.1,b.2.2.1,v,())) (λd v=>()) (λb d=>j77 b.1 b.2.1 b.2.2.1) λb d f=>((λ_=>f (.exit 0) [] []),(λ_=>f .ret [(4,vB false)] []))
theorem jhj:CN 0 58 Tryz.f126 jbP:=lK Zas [] oN ([],[]) [(0,[],[])] ([4],[]) λ_ _ _ _ _=>by kernel_rfl
def j1K (a:List qV) (b:List qV) (d:Bool->Res):Res:=bif ((nI (List.length a)) != (nI (List.length b))) then d false else jbX a b (nI (List.length a)) Z1c 0 (λ_=>d true) (λ_=>d false)
def j39:Sig Unit:=sg [.look y3 false,.look y3 false] [false] [(y3,none),(y3,none)] [] λb f k=>j1K b.1 b.2.1 (λd=>k [wB d] [] [])
theorem jcN:SO 126 j39:=fK (np:=0) Zas [jbP] (oI 58 0 @jhj oN) false Tryz.func126 λ_ _ _ _=>by kernel_rfl
theorem jib:FS [(126,j39),(172,j0U),(173,j0C)]:=(Za6 jcN (Za6 j3t (Za6 j5j Zas)))
def j3r (f:List qV) (d:List qW) (g:Int) (t:qB×qE×qL) (b:Int) (rec:Int->Res) (h:Unit->Res) (i:Int->Res):Res:=bif decide (b<g) then bif inb b (List.length d) then j0e t (nth [] d b) λr=>j1K r f λj=>bif j then i b else rec (Z9K (b+1)) else none else h ()
def j5Q (b:List qV) (d:List qW) (f:Int) (t:qB×qE×qL):Int->(Int->Res)->((Unit->Res)×(Int->Res))->Res:=λv rec q=>j3r b d f t v (λg=>rec (g)) q.1 q.2
def jdp (b:List qV) (d:List qW) (f:Int) (t:qB×qE×qL) (n:Nat) (g:Int) (h:Unit->Res) (i:Int->Res):Res:=Z1f (j5Q b d f t) n (g) (h,i)
def jcu:Z1d Unit:=NdL 27 27 [.R 2 y3 .S,.t 3 (pB 3),.R 13 y12 .S,.I 14,.I 15] [(3,y10,[.S,.S])] (λb d=>(b.2.2.2.1)) (λb v=>(b.1,b.2.1,b.2.2.1,v,())) (λd v=>((d.1.1,d.1.2),())) (λb d=>j5Q b.1 b.2.1 b.2.2.1 d.1.2) λb d f=>((λ_=>f (.exit 0) [] []),(λg=>f .ret [(6,vI g)] []))
theorem jmJ:CN 0 58 Tryz.f114 jcu:=lK jib [] oN ([],[]) [(0,[],[])] ([6],[]) λ_ _ _ _ _=>by delta j5Q j3r j0C j39;refine gz j0e λ_ b=>gz j1K λ_ d=> ?_;rewrite [<-b,<-d];kernel_rfl
def j0E (t:qB×qE×qL) (l:List qW) (d:List qV) (b:Int->Res):Res:=j0q t l λr=>bif !r then b (-1) else jdp d l (nI (List.length l)) t Z1c 0 (λ_=>b (-1)) (λf=>b f)
def j38:Sig Unit:=sg [.look y10 true,.look y12 false,.look y3 false] [false] [(y10,none),(y12,none),(y3,none)] [] λb f k=>j0E b.1 b.2.1 b.2.2.1 (λd=>k [wI d] [] [])
theorem jaY:SO 114 j38:=fK (np:=0) jib [jcu] (oI 58 0 @jmJ oN) false Tryz.func114 λ_ _ _ _=>by delta j0E j0U jcu jdp;refine gz j0q λ_ b=>gz j5Q λ_ d=> ?_;rewrite [<-b,<-d];kernel_rfl
theorem jd4:FS [(115,j2k),(173,j0C),(229,j6V)]:=(Za6 j5k (Za6 j5j (Za6 jgr Zas)))
def j76 (b:List qW) (done:Bool) (t:qB×qE×qL) (r:List qV) (x:List qV) (d:qR->Bool->Res):Res:=bif !done then j0e t r λf=>j0e t x λg=>j4S f g λh=>bif h then j0n r λi=>bif lim ((List.length b)+1) then d (b++[i]) true else none else d b done else d b done
def j8m:Z1d Unit:=Nd 48 48 [.t 3 (pB 3),.t 5 (pB 5),.R 7 y12 .O,.B 8,.t 10 (pB 10),.R 12 y12 .S,.I 13,.I 14] [(3,y10,[.S,.S]),(5,y3,[.S]),(10,y3,[.S])] λg b h=>j76 g.1 g.2.1 b.1.2 b.2.1.2 b.2.2.1.2 (λf d=>h .normal [(3,pB 3),(5,pB 5),(7,v1 y12 f .O),(8,vB d),(10,pB 10),(12,v1 y12 g.2.2.1 .S),(13,vI g.2.2.2.1),(14,vI g.2.2.2.2.1)] [(3,⟨y10,b.1.1,b.1.2,[.S,.S]⟩),(5,⟨y3,b.2.1.1,b.2.1.2,[.S]⟩),(10,⟨y3,b.2.2.1.1,b.2.2.1.2,[.S]⟩)])
theorem jlR:CN 0 15666 Tryz.f312 j8m:=nK jd4 [] oN ([3,5,7,8,10,12,13,14],[3,5,10]) [] ([],[]) λ_ _ _=>by delta j76 j0C j6V j2k;refine gz j0e λ_ b=>gz j4S λ_ d=>gz j0n λ_ f=> ?_;rewrite [<-b,<-d,<-f];kernel_rfl
def j2I (g:List qW) (i:Int) (t:qB×qE×qL) (r:List qV) (h:List qW) (done:Bool) (b:Int) (rec:qR->Bool->Int->Res) (j:qR->Bool->Res):Res:=bif decide (b<i) then bif inb b (List.length g) then j76 h done t r (nth [] g b) λd f=>j0n (nth [] g b) λk=>bif lim ((List.length d)+1) then rec (d++[k]) f (Z9K (b+1)) else none else none else j h done
def j50 (d:List qW) (f:Int) (t:qB×qE×qL) (r:List qV):(qR×Bool×Int)->(qR×Bool×Int->Res)->((qR->Bool->Res))->Res:=λv rec q=>j2I d f t r v.1 v.2.1 v.2.2 (λb done g=>rec (b,done,g)) q
def jco (d:List qW) (f:Int) (t:qB×qE×qL) (r:List qV) (n:Nat) (b:List qW) (done:Bool) (g:Int) (h:qR->Bool->Res):Res:=Z1f (j50 d f t r) n (b,done,g) (h)
def jbO:Z1d Unit:=NdL 48 48 [.t 3 (pB 3),.t 5 (pB 5),.R 7 y12 .O,.B 8,.R 12 y12 .S,.I 13,.I 14] [(3,y10,[.S,.S]),(5,y3,[.S])] (λd b=>(d.1,d.2.1,d.2.2.2.2.1)) (λd v=>(v.1,v.2.1,d.2.2.1,d.2.2.2.1,v.2.2,())) (λb v=>((b.1.1,b.1.2),(b.2.1.1,b.2.1.2),())) (λd b=>j50 d.2.2.1 d.2.2.2.1 b.1.2 b.2.1.2) λd b h=>((λg f=>h (.exit 0) [(5,pB 5),(7,v1 y12 g .O),(8,vB f)] [(5,⟨y3,b.2.1.1,b.2.1.2,[.S]⟩)]))
theorem jlQ:CN 0 122 Tryz.f312 jbO:=lK jd4 [j8m] (oI 114 0 @jlR oN) ([],[]) [(0,[5,7,8],[5])] ([],[]) λ_ _ _ _ _=>by delta j50 j2I j8m j2k;refine gz j76 λ_ b=>gz j0n λ_ d=> ?_;rewrite [<-b,<-d];kernel_rfl
def j4h (t:qB×qE×qL) (l:List qW) (r:List qV) (d:qR->Res):Res:=jco l (nI (List.length l)) t r Z1c [] false 0 λb done=>bif !done then j0n r λf=>bif lim ((List.length b)+1) then d (b++[f]) else none else d b
def jdm:Sig Unit:=sg [.borrow y10 true,.borrow y12 false,.borrow y3 true] [false] [(y10,none),(y12,none),(y3,none)] [] λb f k=>j4h b.1 b.2.1 b.2.2.1 (λd=>k [w1 y12 d .O] [] [])
theorem jhO:SO 312 jdm:=fK (np:=0) jd4 [j8m,jbO] (oI 122 1 @jlQ oN) false Tryz.func312 λ_ _ _ _=>by delta j4h jbO j2k jco;refine gz j50 λ_ b=>gz j0n λ_ d=> ?_;rewrite [<-b,<-d];kernel_rfl
def j7U (t:qB×qE×qL) (l:List qW) (r:List qV) (b:qR->Int->Res):Res:=j0q t l λd=>bif !d then b [] 1 else j2N t r λf=>bif !f then b [] 2 else j0e t r λg=>j0E t l g λh=>bif decide (h>=0) then b [] 3 else bif ((nI (List.length l))==60) then b [] 4 else j4h t l r λi=>b i 0
def jhY:Sig Unit:=sg [.borrow y10 true,.borrow y12 false,.borrow y3 true] [false,false] [(y10,none),(y12,none),(y3,none)] [] λb g k=>j7U b.1 b.2.1 b.2.2.1 (λd f=>k [w1 y12 d .O,wI f] [] [])
theorem jnD:SO 288 jhY:=fK (np:=0) (Za6 jaY (Za6 j3t (Za6 j5j (Za6 jen (Za6 jhO Zas))))) [] oN false Tryz.func288 λ_ _ _ _=>by delta j7U j0U j8S j0C j38 jdm;refine gz j0q λ_ b=>gz j2N λ_ d=>gz j0e λ_ f=>gz j0E λ_ g=>gz j4h λ_ h=> ?_;rewrite [<-b,<-d,<-f,<-g,<-h];kernel_rfl
theorem jia:FS [(227,j0W),(230,j37),(281,j9n)]:=(Za6 j0J (Za6 j6w (Za6 jgv Zas)))
def j3q (d:List qV) (f:qL) (g:Int) (t:qB×qE×qL) (b:Int) (rec:Int->Res) (h:Unit->Res) (i:Unit->Res):Res:=bif decide (b<g) then bif inb b (List.length f) then bif inb b (List.length d) then j0Q t (nth eS f b) λr=>bif inb r (List.length t.2.1) then j4Y (nth (eS,0,false,false,0,0,eS) t.2.1 r) (nth (0,0,eS) d b) λj=>bif !j then i () else rec (Z9K (b+1)) else none else none else none else h ()
def j5P (b:List qV) (d:qL) (f:Int) (t:qB×qE×qL):Int->(Int->Res)->((Unit->Res)×(Unit->Res))->Res:=λv rec q=>j3q b d f t v (λg=>rec (g)) q.1 q.2
def jdo (b:List qV) (d:qL) (f:Int) (t:qB×qE×qL) (n:Nat) (g:Int) (h:Unit->Res) (i:Unit->Res):Res:=Z1f (j5P b d f t) n (g) (h,i)
def jct:Z1d Unit:=NdL 40 40 [.R 1 y3 .S,.t 2 (pB 2),.R 19 y0 .S,.I 20,.I 21] [(2,y10,[.S,.S])] (λb d=>(b.2.2.2.1)) (λb v=>(b.1,b.2.1,b.2.2.1,v,())) (λd v=>((d.1.1,d.1.2),())) (λb d=>j5P b.1 b.2.1 b.2.2.1 d.1.2) λb d f=>((λ_=>f (.exit 0) [] []),(λ_=>f .ret [(4,vB false)] []))
theorem jmI:CN 0 58 Tryz.f313 jct:=lK jia [] oN ([],[]) [(0,[],[])] ([4],[]) λ_ _ _ _ _=>by delta j5P j3q j37 j9n;refine gz j0Q λ_ b=>gz j4Y λ_ d=> ?_;rewrite [<-b,<-d];kernel_rfl
def j5O (t:qB×qE×qL) (b:List qV) (d:Bool->Res):Res:=j0o t λr=>bif !r then d false else bif ((nI (List.length b)) != (nI (List.length t.2.2))) then d false else jdo b t.2.2 (nI (List.length t.2.2)) t Z1c 0 (λ_=>d true) (λ_=>d false)
def jeR:Sig Unit:=sg [.look y10 true,.look y3 false] [false] [(y10,none),(y3,none)] [] λb f k=>j5O b.1 b.2.1 (λd=>k [wB d] [] [])
theorem jim:SO 313 jeR:=fK (np:=0) jia [jct] (oI 58 0 @jmI oN) false Tryz.func313 λ_ _ _ _=>by delta j5O j0W jct jdo;refine gz j0o λ_ b=>gz j5P λ_ d=> ?_;rewrite [<-b,<-d];kernel_rfl
def j2a (f:Int) (h:List qW) (g:Int) (d:List qW) (b:Int) (rec:qR->Int->Res) (i:qR->Res):Res:=bif decide (b<g) then bif inb b (List.length h) then bif (b != f) then j0n (nth [] h b) λr=>bif lim ((List.length d)+1) then rec (d++[r]) (Z9K (b+1)) else none else rec d (Z9K (b+1)) else none else i d
def j7w (b:Int) (h:List qW) (f:Int):(qR×Int)->(qR×Int->Res)->((qR->Res))->Res:=λv rec q=>j2a b h f v.1 v.2 (λd g=>rec (d,g)) q
def jcX (b:Int) (i:List qW) (f:Int) (n:Nat) (d:List qW) (g:Int) (h:qR->Res):Res:=Z1f (j7w b i f) n (d,g) (h)
def jbZ:Z1d Unit:=NdL 26 26 [.I 1,.R 5 y12 .O,.R 9 y12 .S,.I 10,.I 11] [] (λb f=>(b.2.1,b.2.2.2.2.1)) (λb v=>(b.1,v.1,b.2.2.1,b.2.2.2.1,v.2,())) (λf v=>()) (λb f=>j7w b.1 b.2.2.1 b.2.2.2.1) λb f g=>((λd=>g (.exit 0) [(5,v1 y12 d .O)] []))
theorem ji7:CN 0 58 Tryz.f314 jbZ:=lK (Za6 j5k Zas) [] oN ([],[]) [(0,[5],[])] ([],[]) λ_ _ _ _ _=>by kernel_rfl
def j29 (l:List qW) (b:Int) (f:qR->Res):Res:=jcX b l (nI (List.length l)) Z1c [] 0 λd=>f d
def j9F:Sig Unit:=sg [.borrow y12 false,.borrow tI false] [false] [(y12,none),(tI,none)] [] λb f k=>j29 b.1 b.2.1 (λd=>k [w1 y12 d .O] [] [])
theorem jdA:SO 314 j9F:=fK (np:=0) (Za6 j5k Zas) [jbZ] (oI 58 0 @ji7 oN) false Tryz.func314 λ_ _ _ _=>by kernel_rfl
def j7V (t:qB×qE×qL) (l:List qW) (d:List qV) (r:List qV) (b:qR->Int->Res):Res:=j0q t l λh=>bif !h then b [] 1 else j2N t r λi=>bif !i then b [] 2 else j0E t l d λf=>j5O t d λj=>bif !j then b [] 5 else bif decide (f<0) then b [] 5 else j29 l f λg=>j0e t r λk=>j0E t g k λm=>bif decide (m>=0) then b [] 3 else j4h t g r λn=>b n 0
def jhZ:Sig Unit:=sg [.borrow y10 true,.borrow y12 false,.borrow y3 false,.borrow y3 true] [false,false] [(y10,none),(y12,none),(y3,none),(y3,none)] [] λb g k=>j7V b.1 b.2.1 b.2.2.1 b.2.2.2.1 (λd f=>k [w1 y12 d .O,wI f] [] [])
theorem jnE:SO 289 jhZ:=fK (np:=0) (Za6 jaY (Za6 j3t (Za6 j5j (Za6 jen (Za6 jhO (Za6 jim (Za6 jdA Zas))))))) [] oN false Tryz.func289 λ_ _ _ _=>by delta j7V j0U j8S j38 jeR j9F j0C jdm;refine gz j0q λ_ b=>gz j2N λ_ d=>gz j0E λ_ f=>gz j5O λ_ g=>gz j29 λ_ h=>gz j0e λ_ i=>gz j4h λ_ j=> ?_;rewrite [<-b,<-d,<-f,<-g,<-h,<-i,<-j];kernel_rfl
def j7T (t:qB×qE×qL) (l:List qW) (b:List qV) (d:qR->Int->Res):Res:=j0q t l λr=>bif !r then d [] 1 else j0E t l b λf=>j5O t b λg=>bif !g then d [] 5 else bif decide (f<0) then d [] 5 else j29 l f λh=>d h 0
def jhX:Sig Unit:=sg [.borrow y10 true,.borrow y12 false,.borrow y3 false] [false,false] [(y10,none),(y12,none),(y3,none)] [] λb g k=>j7T b.1 b.2.1 b.2.2.1 (λd f=>k [w1 y12 d .O,wI f] [] [])
theorem jnC:SO 290 jhX:=fK (np:=0) (Za6 jaY (Za6 j3t (Za6 jim (Za6 jdA Zas)))) [] oN false Tryz.func290 λ_ _ _ _=>by delta j7T j0U j38 jeR j9F;refine gz j0q λ_ b=>gz j0E λ_ d=>gz j5O λ_ f=>gz j29 λ_ g=> ?_;rewrite [<-b,<-d,<-f,<-g];kernel_rfl
theorem j6t:FS [(172,j0U),(210,j4N),(230,j37),(287,j5J)]:=(Za6 j3t (Za6 jem (Za6 j6w (Za6 jfg Zas))))
def j5S (l:List qW) (t:qB×qE×qL) (d:qG) (b:Bool->Res):Res:=j0q t l λr=>bif !r then b true else j2M d λf=>bif !f then b true else bif sNe d.2.1 t.1 then b true else b (d.1==1)
def j2J:Z1d Unit:=Nd 106 106 [.R 1 y12 .S,.t 3 (pB 3),.t 5 (pB 5)] [(3,y10,[.S,.S]),(5,y19,[.S,.S])] λf b g=>j5S f.1 b.1.2 b.2.1.2 (λd=>g .normal [(1,v1 y12 f.1 .S),(3,pB 3),(5,pB 5),(37,vB d)] [(3,⟨y10,b.1.1,b.1.2,[.S,.S]⟩),(5,⟨y19,b.2.1.1,b.2.1.2,[.S,.S]⟩)])
theorem jkR:CN 0 12 Tryz.f291 j2J:=nK j6t [] oN ([1,3,5,37],[3,5]) [] ([],[]) λ_ _ _=>by delta j5S j0U j4N;refine gz j0q λ_ b=>gz j2M λ_ d=> ?_;rewrite [<-b,<-d];kernel_rfl
def j0H (g:Int) (f:List qV) (h:Int) (d:qG) (b:Int) (x:List qV) (rec:Int->qW->Res) (i:qW->Res):Res:=bif decide (b<h) then bif inb b (List.length f) then bif (d.1 != 4) then bif lim ((List.length x)+1) then rec (Z9K (b+1)) (x++[nth (0,0,eS) f b]) else none else bif (b != g) then bif lim ((List.length x)+1) then rec (Z9K (b+1)) (x++[nth (0,0,eS) f b]) else none else rec (Z9K (b+1)) x else none else i x
def j3T (b:Int) (f:List qV) (g:Int) (d:qG):(Int×qW)->(Int×qW->Res)->((qW->Res))->Res:=λv rec q=>j0H b f g d v.1 v.2 (λh x=>rec (h,x)) q
def j8i (b:Int) (f:List qV) (g:Int) (d:qG) (n:Nat) (h:Int) (x:List qV) (i:qW->Res):Res:=Z1f (j3T b f g d) n (h,x) (i)
def j53:Z1d Unit:=NdL 106 106 [.t 5 (pB 5),.R 10 y12 .O,.I 11,.t 14 (pB 14),.R 54 y12 .S,.I 55,.I 56,.R 62 y3 .S,.I 63,.I 64] [(5,y19,[.S,.S]),(14,y3,[.O])] (λb d=>(b.2.2.2.2.2.2.2.1,d.2.1.2)) (λb v=>(b.1,b.2.1,b.2.2.1,b.2.2.2.1,b.2.2.2.2.1,b.2.2.2.2.2.1,b.2.2.2.2.2.2.1,v.1,())) (λd v=>((d.1.1,d.1.2),(d.2.1.1,v.2),())) (λb d=>j3T b.2.1 b.2.2.2.2.2.1 b.2.2.2.2.2.2.1 d.1.2) λb d f=>((λg=>f (.exit 2) [(5,pB 5),(10,v1 y12 b.1 .O),(11,vI b.2.1),(14,pB 14),(54,v1 y12 b.2.2.1 .S),(55,vI b.2.2.2.1),(56,vI b.2.2.2.2.1)] [(5,⟨y19,d.1.1,d.1.2,[.S,.S]⟩),(14,⟨y3,d.2.1.1,g,[.O]⟩)]))
theorem jkP:CN 0 1042842 Tryz.f291 j53:=lK j6t [j2J] oN ([],[]) [(2,[5,10,11,14,54,55,56],[5,14])] ([],[]) λ_ _ _ _ _=>by kernel_rfl
def j8j (b:Bool) (d:qG) (x:List qV) (f:qW->Res):Res:=bif b then bif inb 0 (List.length d.2.2.1) then bif lim ((List.length x)+1) then f (x++[(nth (eS,0,false,false,0,0,eS) d.2.2.1 0).2.2.2.2]) else none else none else f x
def j7B:Z1d Unit:=Nd 106 106 [.t 5 (pB 5),.R 10 y12 .O,.I 11,.t 14 (pB 14),.R 54 y12 .S,.I 55,.I 56,.B 86] [(5,y19,[.S,.S]),(14,y3,[.O])] λb d f=>j8j b.2.2.2.2.2.1 d.1.2 d.2.1.2 (λg=>f .normal [(5,pB 5),(10,v1 y12 b.1 .O),(11,vI b.2.1),(14,pB 14),(54,v1 y12 b.2.2.1 .S),(55,vI b.2.2.2.1),(56,vI b.2.2.2.2.1)] [(5,⟨y19,d.1.1,d.1.2,[.S,.S]⟩),(14,⟨y3,d.2.1.1,g,[.O]⟩)])
theorem jkS:CN 0 1042845 Tryz.f291 j7B:=nK j6t [j2J,j53] oN ([5,10,11,14,54,55,56],[5,14]) [] ([],[]) λ_ _ _=>by kernel_rfl
def j2f (h:Int) (g:List qW) (i:Int) (d:qG) (f:List qW) (b:Int) (rec:qR->Int->Res) (j:qR->Res):Res:=bif decide (b<i) then bif inb b (List.length g) then j8i h (nth [] g b) (nI (List.length (nth [] g b))) d Z1c 0 [] λx=>j8j (d.1==3) d x λk=>bif (d.1 != 2) then bif lim ((List.length f)+1) then rec (f++[k]) (Z9K (b+1)) else none else rec f (Z9K (b+1)) else none else j f
def j3U (b:Int) (g:List qW) (h:Int) (d:qG):(qR×Int)->(qR×Int->Res)->((qR->Res))->Res:=λv rec q=>j2f b g h d v.1 v.2 (λf i=>rec (f,i)) q
def jbw (b:Int) (g:List qW) (h:Int) (d:qG) (n:Nat) (f:List qW) (i:Int) (j:qR->Res):Res:=Z1f (j3U b g h d) n (f,i) (j)
def jaH:Z1d Unit:=NdL 106 106 [.t 5 (pB 5),.R 10 y12 .O,.I 11,.R 54 y12 .S,.I 55,.I 56] [(5,y19,[.S,.S])] (λb d=>(b.1,b.2.2.2.2.1)) (λb v=>(v.1,b.2.1,b.2.2.1,b.2.2.2.1,v.2,())) (λd v=>((d.1.1,d.1.2),())) (λb d=>j3U b.2.1 b.2.2.1 b.2.2.2.1 d.1.2) λb d g=>((λf=>g (.exit 0) [(10,v1 y12 f .O)] []))
theorem jkQ:CN 0 1018 Tryz.f291 jaH:=lK j6t [j2J,j53,j7B] (oI 922 1 @jkP (oI 925 2 @jkS oN)) ([],[]) [(0,[10],[])] ([],[]) λ_ _ _ _ _=>by delta j3U j2f j53 j7B j8i;refine gz j3T λ_ b=>gz j8j λ_ d=> ?_;rewrite [<-b,<-d];kernel_rfl
def j73 (t:qB×qE×qL) (l:List qW) (d:qG) (b:qR->Int->Res):Res:=j5S l t d λi=>bif i then b [] 1 else j2l [t] d λr g=>bif (g != 0) then b [] g else j0Q t d.2.2.2.2.1 λh=>jbw h l (nI (List.length l)) d Z1c [] 0 λf=>b f 0
def jgM:Sig Unit:=sg [.borrow y10 true,.borrow y12 false,.borrow y19 true] [false,false] [(y10,none),(y12,none),(y19,none)] [] λb g k=>j73 b.1 b.2.1 b.2.2.1 (λd f=>k [w1 y12 d .O,wI f] [] [])
theorem jmi:SO 291 jgM:=fK (np:=0) j6t [j2J,j53,j7B,jaH] (oI 12 0 @jkR (oI 1018 3 @jkQ oN)) false Tryz.func291 λ_ _ _ _=>by delta j73 j2J j5J j37 jaH jbw;refine gz j5S λ_ b=>gz j2l λ_ d=>gz j0Q λ_ f=>gz j3U λ_ g=> ?_;rewrite [<-b,<-d,<-f,<-g];kernel_rfl
def jcA (c:qB×Int×Bool×Bool×Int×Int×qB) (d:Int×Int×qB) (b:Bool->Res):Res:=j1h d λr=>bif r then bif (d.1==c.2.1) then b true else bif (d.1==0) then b (!c.2.2.1) else b false else b false
def jo1:Sig Unit:=sg [.look y7 true,.look y2 true] [false] [(y7,none),(y2,none)] [] λb f k=>jcA b.1 b.2.1 (λd=>k [wB d] [] [])
theorem jhB:SO 315 jo1:=fK (np:=0) (Za6 j8n Zas) [] oN false Tryz.func315 λ_ _ _ _=>by kernel_rfl
def j5E (d:List qV) (f:Int) (t:qB×qE×qL) (b:Int) (rec:Int->Res) (g:Unit->Res) (h:Unit->Res):Res:=bif decide (b<f) then bif inb b (List.length d) then bif inb b (List.length t.2.1) then jcA (nth (eS,0,false,false,0,0,eS) t.2.1 b) (nth (0,0,eS) d b) λr=>bif !r then h () else rec (Z9K (b+1)) else none else none else g ()
def jb7 (b:List qV) (d:Int) (t:qB×qE×qL):Int->(Int->Res)->((Unit->Res)×(Unit->Res))->Res:=λv rec q=>j5E b d t v (λf=>rec (f)) q.1 q.2
def jhS (b:List qV) (d:Int) (t:qB×qE×qL) (n:Nat) (f:Int) (g:Unit->Res) (h:Unit->Res):Res:=Z1f (jb7 b d t) n (f) (g,h)
def jgW:Z1d Unit:=NdL 31 31 [.t 2 (pB 2),.R 15 y3 .S,.I 16,.I 17] [(2,y10,[.S,.S])] (λb d=>(b.2.2.1)) (λb v=>(b.1,b.2.1,v,())) (λd v=>((d.1.1,d.1.2),())) (λb d=>jb7 b.1 b.2.1 d.1.2) λb d f=>((λ_=>f (.exit 0) [] []),(λ_=>f .ret [(4,vB false)] []))
theorem jmE:CN 0 58 Tryz.f293 jgW:=lK (Za6 jhB Zas) [] oN ([],[]) [(0,[],[])] ([4],[]) λ_ _ _ _ _=>by kernel_rfl
def j49 (t:qB×qE×qL) (r:List qV) (b:Bool->Res):Res:=bif ((nI (List.length r)) != (nI (List.length t.2.1))) then b false else jhS r (nI (List.length r)) t Z1c 0 (λ_=>b true) (λ_=>b false)
def j6O:Sig Unit:=sg [.look y10 true,.look y3 true] [false] [(y10,none),(y3,none)] [] λb f k=>j49 b.1 b.2.1 (λd=>k [wB d] [] [])
theorem je9:SO 293 j6O:=fK (np:=0) (Za6 jhB Zas) [jgW] (oI 58 0 @jmE oN) false Tryz.func293 λ_ _ _ _=>by kernel_rfl
def j5D (f:qL) (g:Int) (t:qB×qE×qL) (r:List qV) (d:List qV) (b:Int) (rec:qW->Int->Res) (i:qW->Res):Res:=bif decide (b<g) then bif inb b (List.length f) then j0l t (nth eS f b) λh=>bif inb h (List.length r) then bif lim ((List.length d)+1) then rec (d++[nth (0,0,eS) r h]) (Z9K (b+1)) else none else none else none else i d
def jb6 (d:qL) (f:Int) (t:qB×qE×qL) (r:List qV):(qW×Int)->(qW×Int->Res)->((qW->Res))->Res:=λv rec q=>j5D d f t r v.1 v.2 (λb g=>rec (b,g)) q
def jhR (d:qL) (f:Int) (t:qB×qE×qL) (r:List qV) (n:Nat) (b:List qV) (g:Int) (h:qW->Res):Res:=Z1f (jb6 d f t r) n (b,g) (h)
def jgV:Z1d Unit:=NdL 28 28 [.t 2 (pB 2),.t 3 (pB 3),.R 5 y3 .O,.R 10 y0 .S,.I 11,.I 12] [(2,y10,[.S,.S]),(3,y3,[.S])] (λb d=>(b.1,b.2.2.2.1)) (λb v=>(v.1,b.2.1,b.2.2.1,v.2,())) (λd v=>((d.1.1,d.1.2),(d.2.1.1,d.2.1.2),())) (λb d=>jb6 b.2.1 b.2.2.1 d.1.2 d.2.1.2) λb d g=>((λf=>g (.exit 0) [(5,v1 y3 f .O)] []))
theorem jmD:CN 0 58 Tryz.f238 jgV:=lK (Za6 j4p Zas) [] oN ([],[]) [(0,[5],[])] ([],[]) λ_ _ _ _ _=>by kernel_rfl
def j0m (t:qB×qE×qL) (r:List qV) (d:qW->Res):Res:=jhR t.2.2 (nI (List.length t.2.2)) t r Z1c [] 0 λb=>d b
def j0L:Sig Unit:=sg [.borrow y10 true,.borrow y3 true] [false] [(y10,none),(y3,none)] [] λb f k=>j0m b.1 b.2.1 (λd=>k [w1 y3 d .O] [] [])
theorem j6v:SO 238 j0L:=fK (np:=0) (Za6 j4p Zas) [jgV] (oI 58 0 @jmD oN) false Tryz.func238 λ_ _ _ _=>by kernel_rfl
def j3B (a:List qV) (b:List qV) (i:Int) (rec:Int->Res) (d:Unit->Res) (f:Bool->Res):Res:=bif decide (i<(nI (List.length a))) then bif decide (i<(nI (List.length b))) then bif inb i (List.length a) then bif inb i (List.length b) then bif !(((nth (0,0,eS) a i).1==(nth (0,0,eS) b i).1)&&(((nth (0,0,eS) a i).2.1==(nth (0,0,eS) b i).2.1)&&(sEq (nth (0,0,eS) a i).2.2 (nth (0,0,eS) b i).2.2))) then bif inb i (List.length a) then bif inb i (List.length b) then j8w (nth (0,0,eS) a i) (nth (0,0,eS) b i) λr=>f r else none else none else rec (Z9K (i+1)) else none else none else d () else d ()
def j9z (a:List qV) (b:List qV):Int->(Int->Res)->((Unit->Res)×(Bool->Res))->Res:=λv rec q=>j3B a b v (λi=>rec (i)) q.1 q.2
def jfn (a:List qV) (b:List qV) (n:Nat) (i:Int) (d:Unit->Res) (f:Bool->Res):Res:=Z1f (j9z a b) n (i) (d,f)
def jeW:Z1d Unit:=NdL 41 41 [.R 0 y3 .S,.R 1 y3 .S,.I 5] [] (λb d=>(b.2.2.1)) (λb v=>(b.1,b.2.1,v,())) (λd v=>()) (λb d=>j9z b.1 b.2.1) λb d f=>((λ_=>f (.exit 0) [(0,v1 y3 b.1 .S),(1,v1 y3 b.2.1 .S)] []),(λg=>f .ret [(4,vB g)] []))
theorem jkw:CN 0 26 Tryz.f294 jeW:=lK (Za6 jgj Zas) [] oN ([],[]) [(0,[0,1],[])] ([4],[]) λ_ _ _ _ _=>by kernel_rfl
def j4q (a:List qV) (b:List qV) (d:Bool->Res):Res:=jfn a b Z1c 0 (λ_=>d (decide ((nI (List.length a))<(nI (List.length b))))) (λt=>d t)
def j6L:Sig Unit:=sg [.look y3 false,.look y3 false] [false] [(y3,none),(y3,none)] [] λb f k=>j4q b.1 b.2.1 (λd=>k [wB d] [] [])
theorem jgi:SO 294 j6L:=fK (np:=0) (Za6 jgj Zas) [jeW] (oI 26 0 @jkw oN) false Tryz.func294 λ_ _ _ _=>by kernel_rfl
theorem jhs:FS [(238,j0L),(268,j4k),(293,j6O),(294,j6L)]:=(Za6 j6v (Za6 j6u (Za6 je9 (Za6 jgi Zas))))
def j2B (l:List qW) (d:List qW) (f:Int) (t:qB×qE×qL) (b:Int) (rec:Int->Res) (h:Unit->Res) (g:Unit->Res):Res:=bif decide (b<f) then bif inb b (List.length d) then j49 t (nth [] d b) λr=>bif !r then g () else bif decide (b>0) then bif inb (Z9K (b-1)) (List.length l) then j0m t (nth [] l (Z9K (b-1))) λi=>j0m t (nth [] d b) λj=>j4q i j λk=>bif !k then g () else rec (Z9K (b+1)) else none else rec (Z9K (b+1)) else none else h ()
def j4r (l:List qW) (b:List qW) (d:Int) (t:qB×qE×qL):Int->(Int->Res)->((Unit->Res)×(Unit->Res))->Res:=λv rec q=>j2B l b d t v (λf=>rec (f)) q.1 q.2
def jc6 (l:List qW) (b:List qW) (d:Int) (t:qB×qE×qL) (n:Nat) (f:Int) (g:Unit->Res) (h:Unit->Res):Res:=Z1f (j4r l b d t) n (f) (g,h)
def jbC:Z1d Unit:=NdL 45 45 [.R 1 y12 .S,.t 2 (pB 2),.R 15 y12 .S,.I 16,.I 17] [(2,y10,[.S,.S])] (λb d=>(b.2.2.2.1)) (λb v=>(b.1,b.2.1,b.2.2.1,v,())) (λd v=>((d.1.1,d.1.2),())) (λb d=>j4r b.1 b.2.1 b.2.2.1 d.1.2) λb d f=>((λ_=>f (.exit 0) [] []),(λ_=>f .ret [(4,vB false)] []))
theorem jlv:CN 0 58 Tryz.f251 jbC:=lK jhs [] oN ([],[]) [(0,[],[])] ([4],[]) λ_ _ _ _ _=>by delta j4r j2B j6O j0L j6L;refine gz j49 λ_ b=>gz j0m λ_ d=>gz j4q λ_ f=> ?_;rewrite [<-b,<-d,<-f];kernel_rfl
def j0V (t:qB×qE×qL) (l:List qW) (b:Bool->Res):Res:=j0S t λr=>bif !r then b false else bif decide ((nI (List.length l))>60) then b false else jc6 l l (nI (List.length l)) t Z1c 0 (λ_=>b true) (λ_=>b false)
def j2j:Sig Unit:=sg [.look y10 true,.look y12 false] [false] [(y10,none),(y12,none)] [] λb f k=>j0V b.1 b.2.1 (λd=>k [wB d] [] [])
theorem j7D:SO 251 j2j:=fK (np:=0) jhs [jbC] (oI 58 0 @jlv oN) false Tryz.func251 λ_ _ _ _=>by delta j0V j4k jbC jc6;refine gz j0S λ_ b=>gz j4r λ_ d=> ?_;rewrite [<-b,<-d];kernel_rfl
def j0I (l:List qV) (b:qW->Res):Res:=bif lim (0+(List.length l)) then b l else none
def j3n:Sig Unit:=sg [.borrow y3 false] [false] [(y3,none)] [] λd f k=>j0I d.1 (λb=>k [w1 y3 b .O] [] [])
theorem j83:SO 178 j3n:=fK (np:=0) Zas [] oN false Tryz.func178 λ_ _ _ _=>by kernel_rfl
def j2R (f:List qW) (h:Int) (b:List qW) (d:Int) (rec:qR->Int->Res) (g:qR->Res):Res:=bif decide (d<h) then bif inb d (List.length f) then j0I (nth [] f d) λr=>bif lim ((List.length b)+1) then rec (b++[r]) (Z9K (d+1)) else none else none else g b
def j8x (d:List qW) (f:Int):(qR×Int)->(qR×Int->Res)->((qR->Res))->Res:=λv rec q=>j2R d f v.1 v.2 (λb g=>rec (b,g)) q
def jev (f:List qW) (g:Int) (n:Nat) (b:List qW) (h:Int) (d:qR->Res):Res:=Z1f (j8x f g) n (b,h) (d)
def jdJ:Z1d Unit:=NdL 21 21 [.R 3 y12 .O,.R 6 y12 .S,.I 7,.I 8] [] (λb f=>(b.1,b.2.2.2.1)) (λb v=>(v.1,b.2.1,b.2.2.1,v.2,())) (λf v=>()) (λb f=>j8x b.2.1 b.2.2.1) λb f g=>((λd=>g (.exit 0) [(3,v1 y12 d .O)] []))
theorem jjq:CN 0 58 Tryz.f232 jdJ:=lK (Za6 j83 Zas) [] oN ([],[]) [(0,[3],[])] ([],[]) λ_ _ _ _ _=>by kernel_rfl
def j0B (l:List qW) (d:qR->Res):Res:=jev l (nI (List.length l)) Z1c [] 0 λb=>d b
def j13:Sig Unit:=sg [.borrow y12 false] [false] [(y12,none)] [] λd f k=>j0B d.1 (λb=>k [w1 y12 b .O] [] [])
theorem j5r:SO 232 j13:=fK (np:=0) (Za6 j83 Zas) [jdJ] (oI 58 0 @jjq oN) false Tryz.func232 λ_ _ _ _=>by kernel_rfl
theorem j95:FS [(211,j4K),(232,j13),(251,j2j),(284,j0T),(317,j6N),(324,jbV)]:=(Za6 je8 (Za6 j5r (Za6 j7D (Za6 j4p (Za6 jgl (Za6 ji4 Zas))))))
def j5A (l:List qW) (t:qB×qE×qL) (d:qG) (b:Bool->Res):Res:=j0V t l λr=>bif !r then b true else j2K d λf=>bif !f then b true else bif sNe d.2.1 t.1 then b true else b (d.1==1)
def j51:Z1d Unit:=Nd 98 98 [.R 1 y12 .S,.t 3 (pB 3),.t 5 (pB 5)] [(3,y10,[.S,.S]),(5,y19,[.S,.S])] λf b g=>j5A f.1 b.1.2 b.2.1.2 (λd=>g .normal [(1,v1 y12 f.1 .S),(3,pB 3),(5,pB 5),(33,vB d)] [(3,⟨y10,b.1.1,b.1.2,[.S,.S]⟩),(5,⟨y19,b.2.1.1,b.2.1.2,[.S,.S]⟩)])
theorem jkz:CN 0 12 Tryz.f298 j51:=nK j95 [] oN ([1,3,5,33],[3,5]) [] ([],[]) λ_ _ _=>by delta j5A j2j j4K;refine gz j0V λ_ b=>gz j2K λ_ d=> ?_;rewrite [<-b,<-d];kernel_rfl
def j3C (g:Int) (d:qG) (f:List qW) (b:Int) (rec:qR->Int->Res) (h:qR->Res):Res:=bif decide (b<g) then bif inb b (List.length f) then bif inb 0 (List.length d.2.2.1) then bif lim ((List.length (nth [] f b))+1) then bif inb b (List.length (upd f b ((nth [] f b)++[(nth (eS,0,false,false,0,0,eS) d.2.2.1 0).2.2.2.2]))) then bif (Z9o (Int.toNat b) (Int.toNat b)&&true) then rec (upd f b ((nth [] f b)++[(nth (eS,0,false,false,0,0,eS) d.2.2.1 0).2.2.2.2])) (Z9K (b+1)) else none else none else none else none else none else h f
def j6b (f:Int) (d:qG):(qR×Int)->(qR×Int->Res)->((qR->Res))->Res:=λv rec q=>j3C f d v.1 v.2 (λb g=>rec (b,g)) q
def j84 (f:Int) (d:qG) (n:Nat) (b:List qW) (g:Int) (h:qR->Res):Res:=Z1f (j6b f d) n (b,g) (h)
def j7y:Z1d Unit:=NdL 98 98 [.t 5 (pB 5),.R 9 y12 .O,.I 51,.I 52] [(5,y19,[.S,.S])] (λb d=>(b.1,b.2.2.1)) (λb v=>(v.1,b.2.1,v.2,())) (λd v=>((d.1.1,d.1.2),())) (λb d=>j6b b.2.1 d.1.2) λb d g=>((λf=>g (.exit 1) [(9,v1 y12 f .O)] []))
theorem jkx:CN 0 16058 Tryz.f298 j7y:=lK j95 [j51] oN ([],[]) [(1,[9],[])] ([],[]) λ_ _ _ _ _=>by kernel_rfl
def j3D (f:Int) (g:Int) (d:List qW) (b:Int) (rec:qR->Int->Res) (h:qR->Res):Res:=bif decide (b<g) then bif inb b (List.length d) then j9G (nth [] d b) f (Z9K (f+1)) λr=>bif inb b (List.length (upd d b r)) then bif (Z9o (Int.toNat b) (Int.toNat b)&&true) then rec (upd d b r) (Z9K (b+1)) else none else none else none else h d
def j6c (b:Int) (f:Int):(qR×Int)->(qR×Int->Res)->((qR->Res))->Res:=λv rec q=>j3D b f v.1 v.2 (λd g=>rec (d,g)) q
def j85 (b:Int) (f:Int) (n:Nat) (d:List qW) (g:Int) (h:qR->Res):Res:=Z1f (j6c b f) n (d,g) (h)
def jaC:Z1d Unit:=NdL 98 98 [.R 9 y12 .O,.I 11,.I 79,.I 80] [] (λb f=>(b.1,b.2.2.2.1)) (λb v=>(v.1,b.2.1,b.2.2.1,v.2,())) (λf v=>()) (λb f=>j6c b.2.1 b.2.2.1) λb f g=>((λd=>g (.exit 3) [(9,v1 y12 d .O)] []))
theorem jky:CN 0 128502 Tryz.f298 jaC:=lK j95 [j51,j7y] oN ([],[]) [(3,[9],[])] ([],[]) λ_ _ _ _ _=>by kernel_rfl
def j6B (t:qB×qE×qL) (l:List qW) (d:qG) (b:qR->Int->Res):Res:=j5A l t d λj=>bif j then b [] 1 else j2S [t] d λr=>bif (r != 0) then b [] r else j0B l λg=>bif (d.1==2) then b [] 0 else bif (d.1==3) then j84 (nI (List.length g)) d Z1c g 0 λh=>b h 0 else bif (d.1==4) then j0l t d.2.2.2.2.1 λi=>j85 i (nI (List.length g)) Z1c g 0 λf=>b f 0 else b g 0
def jcg:Sig Unit:=sg [.borrow y10 true,.borrow y12 false,.borrow y19 true] [false,false] [(y10,none),(y12,none),(y19,none)] [] λb g k=>j6B b.1 b.2.1 b.2.2.1 (λd f=>k [w1 y12 d .O,wI f] [] [])
theorem jm7:SO 298 jcg:=fK (np:=0) j95 [j51,j7y,jaC] (oI 12 0 @jkz (oI 16058 1 @jkx (oI 128502 2 @jky oN))) false Tryz.func298 λ_ _ _ _=>by delta j6B j51 j6N j13 j7y j0T jaC j84 j85;refine gz j5A λ_ b=>gz j2S λ_ d=>gz j0B λ_ f=>gz j6b λ_ g=>gz j0l λ_ h=>gz j6c λ_ i=> ?_;rewrite [<-b,<-d,<-f,<-g,<-h,<-i];kernel_rfl
def jcz (r:List qV) (g:qB×qE×qL) (h:List qV) (b:Bool->Res):Res:=j0m g r λd=>j0P d h λf=>b f
def jo0:Sig Unit:=sg [.look y3 true,.rptr y10,.rptr y3] [false] [(y3,none),(y10,none),(y3,none)] [] λb f k=>jcz b.1 b.2.1 b.2.2.1 (λd=>k [wB d] [] [])
theorem jhA:SO 237 jo0:=fK (np:=0) (Za6 j8o (Za6 j6v Zas)) [] oN false Tryz.func237 λ_ _ _ _=>by delta jcz j0L j1V;refine gz j0m λ_ b=>gz j0P λ_ d=> ?_;rewrite [<-b,<-d];kernel_rfl
def j16 (s:List qW) (f:qT×List qV) (h:Int) (b:Int) (rec:Int->Res) (d:Unit->Res) (g:Int->Res):Res:=bif decide (b<h) then bif inb b (List.length s) then jcz (nth [] s b) f.1 f.2 λr=>bif r then g b else rec (Z9K (b+1)) else none else d ()
def j4c (s:List qW) (f:qT×List qV) (b:Int):Int->(Int->Res)->((Unit->Res)×(Int->Res))->Res:=λv rec q=>j16 s f b v (λd=>rec (d)) q.1 q.2
def j9v (s:List qW) (f:qT×List qV) (g:Int) (n:Nat) (h:Int) (b:Unit->Res) (d:Int->Res):Res:=Z1f (j4c s f g) n (h) (b,d)
def j90:Z1d Unit:=NdL 19 19 [.R 0 y12 .S,.c 1 237 [y10,y3] y26 [.S,.S,.S],.I 7,.I 8] [] (λb d=>(b.2.2.2.1)) (λb v=>(b.1,b.2.1,b.2.2.1,v,())) (λd v=>()) (λb d=>j4c b.1 b.2.1 b.2.2.1) λb d f=>((λ_=>f (.exit 0) [] []),(λg=>f .ret [(4,vI g)] []))
theorem jeL:CN 0 26 Tryz.f236 j90:=lK (Za6 jhA Zas) [] oN ([],[]) [(0,[],[])] ([4],[]) λ_ _ _ _ _=>by kernel_rfl
def j7p (s:List qW) (f:qT×List qV) (b:Int->Res):Res:=j9v s f (nI (List.length s)) Z1c 0 (λ_=>b (-1)) (λt=>b t)
def jg9:Sig Unit:=sg [.look y12 false,.rclos 237 [y10,y3]] [false] [(y12,none),(y26,none)] [] λb f k=>j7p b.1 b.2.1 (λd=>k [wI d] [] [])
theorem jfT:SO 236 jg9:=fK (np:=0) (Za6 jhA Zas) [j90] (oI 26 0 @jeL oN) false Tryz.func236 λ_ _ _ _=>by kernel_rfl
def j0s (t:qB×qE×qL) (l:List qW) (b:List qV) (d:Int->Res):Res:=j7p l (t,b) λr=>d r
def j1A:Sig Unit:=sg [.look y10 true,.look y12 false,.look y3 false] [false] [(y10,none),(y12,none),(y3,none)] [] λb f k=>j0s b.1 b.2.1 b.2.2.1 (λd=>k [wI d] [] [])
theorem jaW:SO 177 j1A:=fK (np:=0) (Za6 jfT Zas) [] oN false Tryz.func177 λ_ _ _ _=>by kernel_rfl
theorem jhv:FS [(178,j3n),(232,j13),(238,j0L),(294,j6L),(325,j80)]:=(Za6 j83 (Za6 j5r (Za6 j6v (Za6 jgi (Za6 ji5 Zas)))))
def j2C (l:List qW) (t:qB×qE×qL) (r:List qV) (b:Int) (rec:Int->Res) (d:Int->Res):Res:=bif decide (b<(nI (List.length l))) then bif inb b (List.length l) then j0m t (nth [] l b) λf=>j0m t r λg=>j4q f g λh=>bif h then rec (Z9K (b+1)) else d b else none else d b
def j4w (l:List qW) (t:qB×qE×qL) (r:List qV):Int->(Int->Res)->((Int->Res))->Res:=λv rec q=>j2C l t r v (λb=>rec (b)) q
def jc9 (l:List qW) (t:qB×qE×qL) (r:List qV) (n:Nat) (b:Int) (d:Int->Res):Res:=Z1f (j4w l t r) n (b) (d)
def jbG:Z1d Unit:=NdL 35 35 [.R 1 y12 .S,.t 3 (pB 3),.t 5 (pB 5),.I 7] [(3,y10,[.S,.S]),(5,y3,[.S])] (λd b=>(d.2.1)) (λd v=>(d.1,v,())) (λb v=>((b.1.1,b.1.2),(b.2.1.1,b.2.1.2),())) (λd b=>j4w d.1 b.1.2 b.2.1.2) λd b g=>((λf=>g (.exit 0) [(1,v1 y12 d.1 .S),(5,pB 5),(7,vI f)] [(5,⟨y3,b.2.1.1,b.2.1.2,[.S]⟩)]))
theorem jlz:CN 0 28 Tryz.f299 jbG:=lK jhv [] oN ([],[]) [(0,[1,5,7],[5])] ([],[]) λ_ _ _ _ _=>by delta j4w j2C j0L j6L;refine gz j0m λ_ b=>gz j4q λ_ d=> ?_;rewrite [<-b,<-d];kernel_rfl
def j2L (t:qB×qE×qL) (l:List qW) (r:List qV) (d:qR->Res):Res:=jc9 l t r Z1c 0 λb=>j0B l λf=>j0I r λg=>j6e f b [g] λh=>d h
def jad:Sig Unit:=sg [.borrow y10 true,.borrow y12 false,.borrow y3 true] [false] [(y10,none),(y12,none),(y3,none)] [] λb f k=>j2L b.1 b.2.1 b.2.2.1 (λd=>k [w1 y12 d .O] [] [])
theorem jhz:SO 299 jad:=fK (np:=0) jhv [jbG] (oI 28 0 @jlz oN) false Tryz.func299 λ_ _ _ _=>by delta j2L jbG j13 j3n j80 jc9;refine gz j4w λ_ b=>gz j0B λ_ d=>gz j0I λ_ f=>gz j6e λ_ g=> ?_;rewrite [<-b,<-d,<-f,<-g];kernel_rfl
def j7M (t:qB×qE×qL) (l:List qW) (r:List qV) (b:qR->Int->Res):Res:=j0V t l λd=>bif !d then b [] 1 else j49 t r λf=>bif !f then b [] 2 else j0m t r λg=>j0s t l g λh=>bif decide (h>=0) then b [] 3 else bif ((nI (List.length l))==60) then b [] 4 else j2L t l r λi=>b i 0
def jdc:Sig Unit:=sg [.borrow y10 true,.borrow y12 false,.borrow y3 true] [false,false] [(y10,none),(y12,none),(y3,none)] [] λb g k=>j7M b.1 b.2.1 b.2.2.1 (λd f=>k [w1 y12 d .O,wI f] [] [])
theorem jnu:SO 253 jdc:=fK (np:=0) (Za6 jaW (Za6 j6v (Za6 j7D (Za6 je9 (Za6 jhz Zas))))) [] oN false Tryz.func253 λ_ _ _ _=>by delta j7M j2j j6O j0L j1A jad;refine gz j0V λ_ b=>gz j49 λ_ d=>gz j0m λ_ f=>gz j0s λ_ g=>gz j2L λ_ h=> ?_;rewrite [<-b,<-d,<-f,<-g,<-h];kernel_rfl
theorem ji8:FS [(268,j4k),(273,j8N),(284,j0T)]:=(Za6 j6u (Za6 j8n (Za6 j4p Zas)))
def j3k (d:List qV) (f:qL) (g:Int) (t:qB×qE×qL) (b:Int) (rec:Int->Res) (j:Unit->Res) (h:Unit->Res):Res:=bif decide (b<g) then bif inb b (List.length f) then bif inb b (List.length d) then j1h (nth (0,0,eS) d b) λr=>bif !r then h () else bif inb b (List.length d) then j0l t (nth eS f b) λi=>bif inb i (List.length t.2.1) then bif ((nth (0,0,eS) d b).1 != (nth (eS,0,false,false,0,0,eS) t.2.1 i).2.1) then h () else rec (Z9K (b+1)) else none else none else none else none else j ()
def j5z (b:List qV) (d:qL) (f:Int) (t:qB×qE×qL):Int->(Int->Res)->((Unit->Res)×(Unit->Res))->Res:=λv rec q=>j3k b d f t v (λg=>rec (g)) q.1 q.2
def jd7 (b:List qV) (d:qL) (f:Int) (t:qB×qE×qL) (n:Nat) (g:Int) (h:Unit->Res) (i:Unit->Res):Res:=Z1f (j5z b d f t) n (g) (h,i)
def jcr:Z1d Unit:=NdL 49 49 [.R 1 y3 .S,.t 2 (pB 2),.R 19 y0 .S,.I 20,.I 21] [(2,y10,[.S,.S])] (λb d=>(b.2.2.2.1)) (λb v=>(b.1,b.2.1,b.2.2.1,v,())) (λd v=>((d.1.1,d.1.2),())) (λb d=>j5z b.1 b.2.1 b.2.2.1 d.1.2) λb d f=>((λ_=>f (.exit 0) [] []),(λ_=>f .ret [(4,vB false)] []))
theorem jmC:CN 0 58 Tryz.f300 jcr:=lK ji8 [] oN ([],[]) [(0,[],[])] ([4],[]) λ_ _ _ _ _=>by delta j5z j3k j8N j0T;refine gz j1h λ_ b=>gz j0l λ_ d=> ?_;rewrite [<-b,<-d];kernel_rfl
def j5y (t:qB×qE×qL) (b:List qV) (d:Bool->Res):Res:=j0S t λr=>bif !r then d false else bif ((nI (List.length b)) != (nI (List.length t.2.2))) then d false else jd7 b t.2.2 (nI (List.length t.2.2)) t Z1c 0 (λ_=>d true) (λ_=>d false)
def jbl:Sig Unit:=sg [.look y10 true,.look y3 false] [false] [(y10,none),(y3,none)] [] λb f k=>j5y b.1 b.2.1 (λd=>k [wB d] [] [])
theorem jif:SO 300 jbl:=fK (np:=0) ji8 [jcr] (oI 58 0 @jmC oN) false Tryz.func300 λ_ _ _ _=>by delta j5y j4k jcr jd7;refine gz j0S λ_ b=>gz j5z λ_ d=> ?_;rewrite [<-b,<-d];kernel_rfl
theorem jhr:FS [(128,j1V),(177,j1A),(232,j13),(238,j0L),(251,j2j),(293,j6O),(299,jad),(300,jbl),(301,j58)]:=(Za6 j8o (Za6 jaW (Za6 j5r (Za6 j6v (Za6 j7D (Za6 je9 (Za6 jhz (Za6 jif (Za6 jbQ Zas)))))))))
def j6A (l:List qW) (b:List qV) (now:List qV) (t:qB×qE×qL) (d:Unit->Res) (f:Unit->Res):Res:=j0P now b λg=>bif !g then j0s t l now λh=>bif decide (h>=0) then f () else d () else d ()
def jbB:Z1d Unit:=Nd 61 61 [.R 1 y12 .S,.R 2 y3 .S,.t 4 (pB 4),.t 7 (pB 7),.R 10 y3 .O] [(4,y10,[.S,.S]),(7,y3,[.S])] λb d f=>j6A b.1 b.2.1 b.2.2.1 d.1.2 (λ_=>f .normal [(1,v1 y12 b.1 .S),(2,v1 y3 b.2.1 .S),(4,pB 4),(7,pB 7)] [(4,⟨y10,d.1.1,d.1.2,[.S,.S]⟩),(7,⟨y3,d.2.1.1,d.2.1.2,[.S]⟩)]) (λ_=>f .ret [(8,v1 y12 [] .O),(9,vI 3)] [])
theorem jlu:CN 0 30 Tryz.f254 jbB:=nK jhr [] oN ([1,2,4,7],[4,7]) [] ([8,9],[]) λ_ _ _=>by delta j6A j1V j1A;refine gz j0P λ_ b=>gz j0s λ_ d=> ?_;rewrite [<-b,<-d];kernel_rfl
def j7N (t:qB×qE×qL) (l:List qW) (b:List qV) (r:List qV) (d:qR->Int->Res):Res:=j0V t l λg=>bif !g then d [] 1 else j49 t r λh=>bif !h then d [] 2 else j5y t b λi=>bif !i then d [] 5 else j0s t l b λj=>bif decide (j<0) then d [] 5 else j0m t r λk=>j6A l b k t (λ_=>j0s t l b λf=>j0B l λm=>j0Y m f (Z9K (f+1)) λn=>j2L t n r λp=>d p 0) (λ_=>d [] 3)
def jdd:Sig Unit:=sg [.borrow y10 true,.borrow y12 false,.borrow y3 false,.borrow y3 true] [false,false] [(y10,none),(y12,none),(y3,none),(y3,none)] [] λb g k=>j7N b.1 b.2.1 b.2.2.1 b.2.2.2.1 (λd f=>k [w1 y12 d .O,wI f] [] [])
theorem jnv:SO 254 jdd:=fK (np:=0) jhr [jbB] (oI 30 0 @jlu oN) false Tryz.func254 λ_ _ _ _=>by delta j7N j2j j6O jbl j1A j0L jbB j13 j58 jad;refine gz j0V λ_ b=>gz j49 λ_ d=>gz j5y λ_ f=>gz j0s λ_ g=>gz j0m λ_ h=>gz j6A λ_ i=>gz j0B λ_ j=>gz j0Y λ_ k=>gz j2L λ_ l=> ?_;rewrite [<-b,<-d,<-f,<-g,<-h,<-i,<-j,<-k,<-l];kernel_rfl
def j7L (t:qB×qE×qL) (l:List qW) (b:List qV) (d:qR->Int->Res):Res:=j0V t l λr=>bif !r then d [] 1 else j5y t b λg=>bif !g then d [] 5 else j0s t l b λh=>bif decide (h<0) then d [] 5 else j0s t l b λf=>j0B l λi=>j0Y i f (Z9K (f+1)) λj=>d j 0
def jdb:Sig Unit:=sg [.borrow y10 true,.borrow y12 false,.borrow y3 false] [false,false] [(y10,none),(y12,none),(y3,none)] [] λb g k=>j7L b.1 b.2.1 b.2.2.1 (λd f=>k [w1 y12 d .O,wI f] [] [])
theorem jnt:SO 255 jdb:=fK (np:=0) (Za6 jaW (Za6 j5r (Za6 j7D (Za6 jif (Za6 jbQ Zas))))) [] oN false Tryz.func255 λ_ _ _ _=>by delta j7L j2j jbl j1A j13 j58;refine gz j0V λ_ b=>gz j5y λ_ d=>gz j0s λ_ f=>gz j0B λ_ g=>gz j0Y λ_ h=> ?_;rewrite [<-b,<-d,<-f,<-g,<-h];kernel_rfl
end
end Go.PI.G
