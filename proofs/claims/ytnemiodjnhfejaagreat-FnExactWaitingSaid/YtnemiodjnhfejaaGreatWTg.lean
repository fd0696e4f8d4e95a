/-
  Program's code interpreted over typed values; printed texts; plain laws. No conditions.
-/
import Derived.Test.YtnemiodjnhfejaaGreatWTd
import Derived.Test.YtnemiodjnhfejaaGreatWTe
import Derived.Test.YtnemiodjnhfejaaGreatWTf
set_option linter.unusedVariables false
set_option maxRecDepth 100000
namespace Go.PI.G
noncomputable section
open Go Go.PI Go.Proofs
open Go.Code (pl pr)
def j0w (r:List qV) (b:qW->Res):Res:=bif lim (0+(List.length r)) then b r else none
def j70:Sig Unit:=sg [.borrow y3 true] [true] [(y3,none)] [] λd f k=>j0w d.1 (λb=>k [⟨y3,true,b,[.O]⟩] [] [])
theorem j4w:SO 115 j70:=fK (np:=0) Zas [] oN false Tryz.func115 λ_ _ _ _=>by kernel_rfl
def j4a (c:qB×Int×Bool×Bool×Int×Int×qB) (d:Int×Int×qB) (b:Bool->Res):Res:=bif (d.1==0) then j1g d λr=>bif r then b (!c.2.2.1) else b false else j1g d λf=>bif f then b (d.1==c.2.1) else b false
def j8o:Sig Unit:=sg [.look y7 true,.look y2 true] [false] [(y7,none),(y2,none)] [] λb f k=>j4a b.1 b.2.1 (λd=>k [wB d] [] [])
theorem jfj:SO 281 j8o:=fK (np:=0) (Za6 j7G Zas) [] oN false Tryz.func281 λ_ _ _ _=>by delta j4a jax;refine gz j1g λ_ b=> ?_;rewrite [<-b];kernel_rfl
theorem jh8:FS [(227,j12),(281,j8o)]:=(Za6 j3j (Za6 jfj Zas))
def j55 (d:List qC) (f:Int) (r:List qV) (b:Int) (rec:Int->Res) (g:Unit->Res) (h:Unit->Res):Res:=bif decide (b<f) then bif inb b (List.length d) then bif inb b (List.length r) then j4a (nth (eS,0,false,false,0,0,eS) d b) (nth (0,0,eS) r b) λi=>bif !i then h () else rec (Z9K (b+1)) else none else none else g ()
def j7x (b:List qC) (d:Int) (r:List qV):Int->(Int->Res)->((Unit->Res)×(Unit->Res))->Res:=λv rec q=>j55 b d r v (λf=>rec (f)) q.1 q.2
def jcl (b:List qC) (d:Int) (r:List qV) (n:Nat) (f:Int) (g:Unit->Res) (h:Unit->Res):Res:=Z1f (j7x b d r) n (f) (g,h)
def jbK:Z1d Unit:=NdL 36 36 [.t 3 (pB 3),.R 20 y8 .S,.I 21,.I 22] [(3,y3,[.S])] (λb d=>(b.2.2.1)) (λb v=>(b.1,b.2.1,v,())) (λd v=>((d.1.1,d.1.2),())) (λb d=>j7x b.1 b.2.1 d.1.2) λb d f=>((λ_=>f (.exit 0) [] []),(λ_=>f .ret [(4,vB false)] []))
theorem jlw:CN 0 58 Tryz.f228 jbK:=lK jh8 [] oN ([],[]) [(0,[],[])] ([4],[]) λ_ _ _ _ _=>by kernel_rfl
def j2c (t:qB×qE×qL) (r:List qV) (b:Bool->Res):Res:=j0r t λd=>bif !d then b false else bif ((nI (List.length r)) != (nI (List.length t.2.1))) then b false else jcl t.2.1 (nI (List.length t.2.1)) r Z1c 0 (λ_=>b true) (λ_=>b false)
def j7X:Sig Unit:=sg [.look y29 true,.look y3 true] [false] [(y29,none),(y3,none)] [] λb f k=>j2c b.1 b.2.1 (λd=>k [wB d] [] [])
theorem jd6:SO 228 j7X:=fK (np:=0) jh8 [jbK] (oI 58 0 @jlw oN) false Tryz.func228 λ_ _ _ _=>by delta j2c j12 jbK jcl;refine gz j0r λ_ b=>gz j7x λ_ d=> ?_;rewrite [<-b,<-d];kernel_rfl
def j4b (f:qL) (g:Int) (t:qB×qE×qL) (r:List qV) (d:List qV) (b:Int) (rec:qW->Int->Res) (i:qW->Res):Res:=bif decide (b<g) then bif inb b (List.length f) then j0G t (nth eS f b) λh=>bif inb h (List.length r) then bif lim ((List.length d)+1) then rec (d++[nth (0,0,eS) r h]) (Z9K (b+1)) else none else none else none else i d
def j9A (d:qL) (f:Int) (t:qB×qE×qL) (r:List qV):(qW×Int)->(qW×Int->Res)->((qW->Res))->Res:=λv rec q=>j4b d f t r v.1 v.2 (λb g=>rec (b,g)) q
def jfH (d:qL) (f:Int) (t:qB×qE×qL) (r:List qV) (n:Nat) (b:List qV) (g:Int) (h:qW->Res):Res:=Z1f (j9A d f t r) n (b,g) (h)
def jeD:Z1d Unit:=NdL 28 28 [.t 2 (pB 2),.t 3 (pB 3),.R 5 y3 .O,.R 10 y0 .S,.I 11,.I 12] [(2,y29,[.S,.S]),(3,y3,[.S])] (λb d=>(b.1,b.2.2.2.1)) (λb v=>(v.1,b.2.1,b.2.2.1,v.2,())) (λd v=>((d.1.1,d.1.2),(d.2.1.1,d.2.1.2),())) (λb d=>j9A b.2.1 b.2.2.1 d.1.2 d.2.1.2) λb d g=>((λf=>g (.exit 0) [(5,v1 y3 f .O)] []))
theorem jkB:CN 0 58 Tryz.f173 jeD:=lK (Za6 j5E Zas) [] oN ([],[]) [(0,[5],[])] ([],[]) λ_ _ _ _ _=>by kernel_rfl
def j0v (t:qB×qE×qL) (r:List qV) (d:qW->Res):Res:=jfH t.2.2 (nI (List.length t.2.2)) t r Z1c [] 0 λb=>d b
def j1f:Sig Unit:=sg [.borrow y29 true,.borrow y3 true] [false] [(y29,none),(y3,none)] [] λb f k=>j0v b.1 b.2.1 (λd=>k [w1 y3 d .O] [] [])
theorem j6T:SO 173 j1f:=fK (np:=0) (Za6 j5E Zas) [jeD] (oI 58 0 @jkB oN) false Tryz.func173 λ_ _ _ _=>by kernel_rfl
def j2V (a:List qV) (b:List qV) (i:Int) (rec:Int->Res) (d:Unit->Res) (f:Bool->Res):Res:=bif decide (i<(nI (List.length a))) then bif decide (i<(nI (List.length b))) then bif inb i (List.length a) then bif inb i (List.length b) then bif !(((nth (0,0,eS) a i).1==(nth (0,0,eS) b i).1)&&(((nth (0,0,eS) a i).2.1==(nth (0,0,eS) b i).2.1)&&(sEq (nth (0,0,eS) a i).2.2 (nth (0,0,eS) b i).2.2))) then bif inb i (List.length a) then bif inb i (List.length b) then j82 (nth (0,0,eS) a i) (nth (0,0,eS) b i) λr=>f r else none else none else rec (Z9K (i+1)) else none else none else d () else d ()
def j8G (a:List qV) (b:List qV):Int->(Int->Res)->((Unit->Res)×(Bool->Res))->Res:=λv rec q=>j2V a b v (λi=>rec (i)) q.1 q.2
def jei (a:List qV) (b:List qV) (n:Nat) (i:Int) (d:Unit->Res) (f:Bool->Res):Res:=Z1f (j8G a b) n (i) (d,f)
def jdL:Z1d Unit:=NdL 41 41 [.R 0 y3 .S,.R 1 y3 .S,.I 5] [] (λb d=>(b.2.2.1)) (λb v=>(b.1,b.2.1,v,())) (λd v=>()) (λb d=>j8G b.1 b.2.1) λb d f=>((λ_=>f (.exit 0) [(0,v1 y3 b.1 .S),(1,v1 y3 b.2.1 .S)] []),(λg=>f .ret [(4,vB g)] []))
theorem jjs:CN 0 26 Tryz.f229 jdL:=lK (Za6 jfg Zas) [] oN ([],[]) [(0,[0,1],[])] ([4],[]) λ_ _ _ _ _=>by kernel_rfl
def j44 (a:List qV) (b:List qV) (d:Bool->Res):Res:=jei a b Z1c 0 (λ_=>d (decide ((nI (List.length a))<(nI (List.length b))))) (λt=>d t)
def j66:Sig Unit:=sg [.look y3 false,.look y3 false] [false] [(y3,none),(y3,none)] [] λb f k=>j44 b.1 b.2.1 (λd=>k [wB d] [] [])
theorem jff:SO 229 j66:=fK (np:=0) (Za6 jfg Zas) [jdL] (oI 26 0 @jjs oN) false Tryz.func229 λ_ _ _ _=>by kernel_rfl
theorem jgs:FS [(173,j1f),(227,j12),(228,j7X),(229,j66)]:=(Za6 j6T (Za6 j3j (Za6 jd6 (Za6 jff Zas))))
def j25 (l:List qW) (d:List qW) (f:Int) (t:qB×qE×qL) (b:Int) (rec:Int->Res) (h:Unit->Res) (g:Unit->Res):Res:=bif decide (b<f) then bif inb b (List.length d) then j2c t (nth [] d b) λr=>bif !r then g () else bif decide (b>0) then bif inb (Z9K (b-1)) (List.length l) then j0v t (nth [] l (Z9K (b-1))) λi=>j0v t (nth [] d b) λj=>j44 i j λk=>bif !k then g () else rec (Z9K (b+1)) else none else rec (Z9K (b+1)) else none else h ()
def j45 (l:List qW) (b:List qW) (d:Int) (t:qB×qE×qL):Int->(Int->Res)->((Unit->Res)×(Unit->Res))->Res:=λv rec q=>j25 l b d t v (λf=>rec (f)) q.1 q.2
def jbz (l:List qW) (b:List qW) (d:Int) (t:qB×qE×qL) (n:Nat) (f:Int) (g:Unit->Res) (h:Unit->Res):Res:=Z1f (j45 l b d t) n (f) (g,h)
def jaY:Z1d Unit:=NdL 45 45 [.R 1 y31 .S,.t 2 (pB 2),.R 15 y31 .S,.I 16,.I 17] [(2,y29,[.S,.S])] (λb d=>(b.2.2.2.1)) (λb v=>(b.1,b.2.1,b.2.2.1,v,())) (λd v=>((d.1.1,d.1.2),())) (λb d=>j45 b.1 b.2.1 b.2.2.1 d.1.2) λb d f=>((λ_=>f (.exit 0) [] []),(λ_=>f .ret [(4,vB false)] []))
theorem jkv:CN 0 58 Tryz.f172 jaY:=lK jgs [] oN ([],[]) [(0,[],[])] ([4],[]) λ_ _ _ _ _=>by delta j45 j25 j7X j1f j66;refine gz j2c λ_ b=>gz j0v λ_ d=>gz j44 λ_ f=> ?_;rewrite [<-b,<-d,<-f];kernel_rfl
def j0u (t:qB×qE×qL) (l:List qW) (b:Bool->Res):Res:=j0r t λr=>bif !r then b false else bif decide ((nI (List.length l))>60) then b false else jbz l l (nI (List.length l)) t Z1c 0 (λ_=>b true) (λ_=>b false)
def j1e:Sig Unit:=sg [.look y29 true,.look y31 false] [false] [(y29,none),(y31,none)] [] λb f k=>j0u b.1 b.2.1 (λd=>k [wB d] [] [])
theorem j4v:SO 172 j1e:=fK (np:=0) jgs [jaY] (oI 58 0 @jkv oN) false Tryz.func172 λ_ _ _ _=>by delta j0u j12 jaY jbz;refine gz j0r λ_ b=>gz j45 λ_ d=> ?_;rewrite [<-b,<-d];kernel_rfl
def j33 (f:List qW) (h:Int) (b:List qW) (d:Int) (rec:qR->Int->Res) (g:qR->Res):Res:=bif decide (d<h) then bif inb d (List.length f) then j0w (nth [] f d) λr=>bif lim ((List.length b)+1) then rec (b++[r]) (Z9K (d+1)) else none else none else g b
def j8J (d:List qW) (f:Int):(qR×Int)->(qR×Int->Res)->((qR->Res))->Res:=λv rec q=>j33 d f v.1 v.2 (λb g=>rec (b,g)) q
def jel (f:List qW) (g:Int) (n:Nat) (b:List qW) (h:Int) (d:qR->Res):Res:=Z1f (j8J f g) n (b,h) (d)
def jdO:Z1d Unit:=NdL 20 20 [.R 3 y31 .O,.R 7 y31 .S,.I 8,.I 9] [] (λb f=>(b.1,b.2.2.2.1)) (λb v=>(v.1,b.2.1,b.2.2.1,v.2,())) (λf v=>()) (λb f=>j8J b.2.1 b.2.2.1) λb f g=>((λd=>g (.exit 0) [(3,v1 y31 d .O)] []))
theorem jjD:CN 0 58 Tryz.f244 jdO:=lK (Za6 j4w Zas) [] oN ([],[]) [(0,[3],[])] ([],[]) λ_ _ _ _ _=>by kernel_rfl
def j6k (l:List qW) (d:qR->Res):Res:=jel l (nI (List.length l)) Z1c [] 0 λb=>d b
def j8n:Sig Unit:=sg [.borrow y31 false] [false] [(y31,none)] [] λd f k=>j6k d.1 (λb=>k [w1 y31 b .O] [] [])
theorem jfi:SO 244 j8n:=fK (np:=0) (Za6 j4w Zas) [jdO] (oI 58 0 @jjD oN) false Tryz.func244 λ_ _ _ _=>by kernel_rfl
def j1u (a:List qV) (b:List qV) (f:Int) (d:Int) (rec:Int->Res) (g:Unit->Res) (h:Unit->Res):Res:=bif decide (d<f) then bif inb d (List.length a) then bif inb d (List.length b) then bif !(((nth (0,0,eS) a d).1==(nth (0,0,eS) b d).1)&&(((nth (0,0,eS) a d).2.1==(nth (0,0,eS) b d).2.1)&&(sEq (nth (0,0,eS) a d).2.2 (nth (0,0,eS) b d).2.2))) then h () else rec (Z9K (d+1)) else none else none else g ()
def j6m (a:List qV) (b:List qV) (d:Int):Int->(Int->Res)->((Unit->Res)×(Unit->Res))->Res:=λv rec q=>j1u a b d v (λf=>rec (f)) q.1 q.2
def jba (a:List qV) (b:List qV) (d:Int) (n:Nat) (f:Int) (g:Unit->Res) (h:Unit->Res):Res:=Z1f (j6m a b d) n (f) (g,h)
def jb2:Z1d Unit:=NdL 26 26 [.R 0 y3 .S,.R 1 y3 .S,.I 12,.I 13] [] (λb d=>(b.2.2.2.1)) (λb v=>(b.1,b.2.1,b.2.2.1,v,())) (λd v=>()) (λb d=>j6m b.1 b.2.1 b.2.2.1) λb d f=>((λ_=>f (.exit 0) [] []),(λ_=>f .ret [(4,vB false)] []))
theorem jgc:CN 0 58 Tryz.f126 jb2:=lK Zas [] oN ([],[]) [(0,[],[])] ([4],[]) λ_ _ _ _ _=>by kernel_rfl
def j4d (a:List qV) (b:List qV) (d:Bool->Res):Res:=bif ((nI (List.length a)) != (nI (List.length b))) then d false else jba a b (nI (List.length a)) Z1c 0 (λ_=>d true) (λ_=>d false)
def j7Y:Sig Unit:=sg [.look y3 false,.look y3 false] [false] [(y3,none),(y3,none)] [] λb f k=>j4d b.1 b.2.1 (λd=>k [wB d] [] [])
theorem jhq:SO 126 j7Y:=fK (np:=0) Zas [jb2] (oI 58 0 @jgc oN) false Tryz.func126 λ_ _ _ _=>by kernel_rfl
theorem jh7:FS [(126,j7Y),(172,j1e),(173,j1f)]:=(Za6 jhq (Za6 j4v (Za6 j6T Zas)))
def j2A (f:List qV) (d:List qW) (g:Int) (t:qB×qE×qL) (b:Int) (rec:Int->Res) (h:Unit->Res) (i:Int->Res):Res:=bif decide (b<g) then bif inb b (List.length d) then j0v t (nth [] d b) λr=>j4d r f λj=>bif j then i b else rec (Z9K (b+1)) else none else h ()
def j54 (b:List qV) (d:List qW) (f:Int) (t:qB×qE×qL):Int->(Int->Res)->((Unit->Res)×(Int->Res))->Res:=λv rec q=>j2A b d f t v (λg=>rec (g)) q.1 q.2
def jck (b:List qV) (d:List qW) (f:Int) (t:qB×qE×qL) (n:Nat) (g:Int) (h:Unit->Res) (i:Int->Res):Res:=Z1f (j54 b d f t) n (g) (h,i)
def jbJ:Z1d Unit:=NdL 27 27 [.R 2 y3 .S,.t 3 (pB 3),.R 13 y31 .S,.I 14,.I 15] [(3,y29,[.S,.S])] (λb d=>(b.2.2.2.1)) (λb v=>(b.1,b.2.1,b.2.2.1,v,())) (λd v=>((d.1.1,d.1.2),())) (λb d=>j54 b.1 b.2.1 b.2.2.1 d.1.2) λb d f=>((λ_=>f (.exit 0) [] []),(λg=>f .ret [(6,vI g)] []))
theorem jlv:CN 0 58 Tryz.f114 jbJ:=lK jh7 [] oN ([],[]) [(0,[],[])] ([6],[]) λ_ _ _ _ _=>by delta j54 j2A j1f j7Y;refine gz j0v λ_ b=>gz j4d λ_ d=> ?_;rewrite [<-b,<-d];kernel_rfl
def j1C (t:qB×qE×qL) (l:List qW) (d:List qV) (b:Int->Res):Res:=j0u t l λr=>bif !r then b (-1) else jck d l (nI (List.length l)) t Z1c 0 (λ_=>b (-1)) (λf=>b f)
def jaw:Sig Unit:=sg [.look y29 true,.look y31 false,.look y3 false] [false] [(y29,none),(y31,none),(y3,none)] [] λb f k=>j1C b.1 b.2.1 b.2.2.1 (λd=>k [wI d] [] [])
theorem jd5:SO 114 jaw:=fK (np:=0) jh7 [jbJ] (oI 58 0 @jlv oN) false Tryz.func114 λ_ _ _ _=>by delta j1C j1e jbJ jck;refine gz j0u λ_ b=>gz j54 λ_ d=> ?_;rewrite [<-b,<-d];kernel_rfl
theorem jc2:FS [(115,j70),(173,j1f),(229,j66)]:=(Za6 j4w (Za6 j6T (Za6 jff Zas)))
def j6l (b:List qW) (done:Bool) (t:qB×qE×qL) (r:List qV) (x:List qV) (d:qR->Bool->Res):Res:=bif !done then j0v t r λf=>j0v t x λg=>j44 f g λh=>bif h then j0w r λi=>bif lim ((List.length b)+1) then d (b++[i]) true else none else d b done else d b done
def j7D:Z1d Unit:=Nd 48 48 [.t 3 (pB 3),.t 5 (pB 5),.R 7 y31 .O,.B 8,.t 10 (pB 10),.R 12 y31 .S,.I 13,.I 14] [(3,y29,[.S,.S]),(5,y3,[.S]),(10,y3,[.S])] λg b h=>j6l g.1 g.2.1 b.1.2 b.2.1.2 b.2.2.1.2 (λf d=>h .normal [(3,pB 3),(5,pB 5),(7,v1 y31 f .O),(8,vB d),(10,pB 10),(12,v1 y31 g.2.2.1 .S),(13,vI g.2.2.2.1),(14,vI g.2.2.2.2.1)] [(3,⟨y29,b.1.1,b.1.2,[.S,.S]⟩),(5,⟨y3,b.2.1.1,b.2.1.2,[.S]⟩),(10,⟨y3,b.2.2.1.1,b.2.2.1.2,[.S]⟩)])
theorem jkD:CN 0 15666 Tryz.f312 j7D:=nK jc2 [] oN ([3,5,7,8,10,12,13,14],[3,5,10]) [] ([],[]) λ_ _ _=>by delta j6l j1f j66 j70;refine gz j0v λ_ b=>gz j44 λ_ d=>gz j0w λ_ f=> ?_;rewrite [<-b,<-d,<-f];kernel_rfl
def j26 (g:List qW) (i:Int) (t:qB×qE×qL) (r:List qV) (h:List qW) (done:Bool) (b:Int) (rec:qR->Bool->Int->Res) (j:qR->Bool->Res):Res:=bif decide (b<i) then bif inb b (List.length g) then j6l h done t r (nth [] g b) λd f=>j0w (nth [] g b) λk=>bif lim ((List.length d)+1) then rec (d++[k]) f (Z9K (b+1)) else none else none else j h done
def j4c (d:List qW) (f:Int) (t:qB×qE×qL) (r:List qV):(qR×Bool×Int)->(qR×Bool×Int->Res)->((qR->Bool->Res))->Res:=λv rec q=>j26 d f t r v.1 v.2.1 v.2.2 (λb done g=>rec (b,done,g)) q
def jbD (d:List qW) (f:Int) (t:qB×qE×qL) (r:List qV) (n:Nat) (b:List qW) (done:Bool) (g:Int) (h:qR->Bool->Res):Res:=Z1f (j4c d f t r) n (b,done,g) (h)
def jb1:Z1d Unit:=NdL 48 48 [.t 3 (pB 3),.t 5 (pB 5),.R 7 y31 .O,.B 8,.R 12 y31 .S,.I 13,.I 14] [(3,y29,[.S,.S]),(5,y3,[.S])] (λd b=>(d.1,d.2.1,d.2.2.2.2.1)) (λd v=>(v.1,v.2.1,d.2.2.1,d.2.2.2.1,v.2.2,())) (λb v=>((b.1.1,b.1.2),(b.2.1.1,b.2.1.2),())) (λd b=>j4c d.2.2.1 d.2.2.2.1 b.1.2 b.2.1.2) λd b h=>((λg f=>h (.exit 0) [(5,pB 5),(7,v1 y31 g .O),(8,vB f)] [(5,⟨y3,b.2.1.1,b.2.1.2,[.S]⟩)]))
theorem jkC:CN 0 122 Tryz.f312 jb1:=lK jc2 [j7D] (oI 114 0 @jkD oN) ([],[]) [(0,[5,7,8],[5])] ([],[]) λ_ _ _ _ _=>by delta j4c j26 j7D j70;refine gz j6l λ_ b=>gz j0w λ_ d=> ?_;rewrite [<-b,<-d];kernel_rfl
def j3i (t:qB×qE×qL) (l:List qW) (r:List qV) (d:qR->Res):Res:=jbD l (nI (List.length l)) t r Z1c [] false 0 λb done=>bif !done then j0w r λf=>bif lim ((List.length b)+1) then d (b++[f]) else none else d b
def jcg:Sig Unit:=sg [.borrow y29 true,.borrow y31 false,.borrow y3 true] [false] [(y29,none),(y31,none),(y3,none)] [] λb f k=>j3i b.1 b.2.1 b.2.2.1 (λd=>k [w1 y31 d .O] [] [])
theorem jgD:SO 312 jcg:=fK (np:=0) jc2 [j7D,jb1] (oI 122 1 @jkC oN) false Tryz.func312 λ_ _ _ _=>by delta j3i jb1 j70 jbD;refine gz j4c λ_ b=>gz j0w λ_ d=> ?_;rewrite [<-b,<-d];kernel_rfl
def j7e (t:qB×qE×qL) (l:List qW) (r:List qV) (b:qR->Int->Res):Res:=j0u t l λd=>bif !d then b [] 1 else j2c t r λf=>bif !f then b [] 2 else j0v t r λg=>j1C t l g λh=>bif decide (h>=0) then b [] 3 else bif ((nI (List.length l))==60) then b [] 4 else j3i t l r λi=>b i 0
def jgR:Sig Unit:=sg [.borrow y29 true,.borrow y31 false,.borrow y3 true] [false,false] [(y29,none),(y31,none),(y3,none)] [] λb g k=>j7e b.1 b.2.1 b.2.2.1 (λd f=>k [w1 y31 d .O,wI f] [] [])
theorem jms:SO 288 jgR:=fK (np:=0) (Za6 jd5 (Za6 j4v (Za6 j6T (Za6 jd6 (Za6 jgD Zas))))) [] oN false Tryz.func288 λ_ _ _ _=>by delta j7e j1e j7X j1f jaw jcg;refine gz j0u λ_ b=>gz j2c λ_ d=>gz j0v λ_ f=>gz j1C λ_ g=>gz j3i λ_ h=> ?_;rewrite [<-b,<-d,<-f,<-g,<-h];kernel_rfl
theorem jh5:FS [(227,j12),(230,j2o),(281,j8o)]:=(Za6 j3j (Za6 j5E (Za6 jfj Zas)))
def j2z (d:List qV) (f:qL) (g:Int) (t:qB×qE×qL) (b:Int) (rec:Int->Res) (h:Unit->Res) (i:Unit->Res):Res:=bif decide (b<g) then bif inb b (List.length f) then bif inb b (List.length d) then j0G t (nth eS f b) λr=>bif inb r (List.length t.2.1) then j4a (nth (eS,0,false,false,0,0,eS) t.2.1 r) (nth (0,0,eS) d b) λj=>bif !j then i () else rec (Z9K (b+1)) else none else none else none else h ()
def j53 (b:List qV) (d:qL) (f:Int) (t:qB×qE×qL):Int->(Int->Res)->((Unit->Res)×(Unit->Res))->Res:=λv rec q=>j2z b d f t v (λg=>rec (g)) q.1 q.2
def jcj (b:List qV) (d:qL) (f:Int) (t:qB×qE×qL) (n:Nat) (g:Int) (h:Unit->Res) (i:Unit->Res):Res:=Z1f (j53 b d f t) n (g) (h,i)
def jbH:Z1d Unit:=NdL 40 40 [.R 1 y3 .S,.t 2 (pB 2),.R 19 y0 .S,.I 20,.I 21] [(2,y29,[.S,.S])] (λb d=>(b.2.2.2.1)) (λb v=>(b.1,b.2.1,b.2.2.1,v,())) (λd v=>((d.1.1,d.1.2),())) (λb d=>j53 b.1 b.2.1 b.2.2.1 d.1.2) λb d f=>((λ_=>f (.exit 0) [] []),(λ_=>f .ret [(4,vB false)] []))
theorem jlt:CN 0 58 Tryz.f313 jbH:=lK jh5 [] oN ([],[]) [(0,[],[])] ([4],[]) λ_ _ _ _ _=>by delta j53 j2z j2o j8o;refine gz j0G λ_ b=>gz j4a λ_ d=> ?_;rewrite [<-b,<-d];kernel_rfl
def j52 (t:qB×qE×qL) (b:List qV) (d:Bool->Res):Res:=j0r t λr=>bif !r then d false else bif ((nI (List.length b)) != (nI (List.length t.2.2))) then d false else jcj b t.2.2 (nI (List.length t.2.2)) t Z1c 0 (λ_=>d true) (λ_=>d false)
def jdC:Sig Unit:=sg [.look y29 true,.look y3 false] [false] [(y29,none),(y3,none)] [] λb f k=>j52 b.1 b.2.1 (λd=>k [wB d] [] [])
theorem jho:SO 313 jdC:=fK (np:=0) jh5 [jbH] (oI 58 0 @jlt oN) false Tryz.func313 λ_ _ _ _=>by delta j52 j12 jbH jcj;refine gz j0r λ_ b=>gz j53 λ_ d=> ?_;rewrite [<-b,<-d];kernel_rfl
def j1E (f:Int) (h:List qW) (g:Int) (d:List qW) (b:Int) (rec:qR->Int->Res) (i:qR->Res):Res:=bif decide (b<g) then bif inb b (List.length h) then bif (b != f) then j0w (nth [] h b) λr=>bif lim ((List.length d)+1) then rec (d++[r]) (Z9K (b+1)) else none else rec d (Z9K (b+1)) else none else i d
def j6I (b:Int) (h:List qW) (f:Int):(qR×Int)->(qR×Int->Res)->((qR->Res))->Res:=λv rec q=>j1E b h f v.1 v.2 (λd g=>rec (d,g)) q
def jbY (b:Int) (i:List qW) (f:Int) (n:Nat) (d:List qW) (g:Int) (h:qR->Res):Res:=Z1f (j6I b i f) n (d,g) (h)
def jbb:Z1d Unit:=NdL 26 26 [.I 1,.R 5 y31 .O,.R 9 y31 .S,.I 10,.I 11] [] (λb f=>(b.2.1,b.2.2.2.2.1)) (λb v=>(b.1,v.1,b.2.2.1,b.2.2.2.1,v.2,())) (λf v=>()) (λb f=>j6I b.1 b.2.2.1 b.2.2.2.1) λb f g=>((λd=>g (.exit 0) [(5,v1 y31 d .O)] []))
theorem jh1:CN 0 58 Tryz.f314 jbb:=lK (Za6 j4w Zas) [] oN ([],[]) [(0,[5],[])] ([],[]) λ_ _ _ _ _=>by kernel_rfl
def j1D (l:List qW) (b:Int) (f:qR->Res):Res:=jbY b l (nI (List.length l)) Z1c [] 0 λd=>f d
def j8E:Sig Unit:=sg [.borrow y31 false,.borrow tI false] [false] [(y31,none),(tI,none)] [] λb f k=>j1D b.1 b.2.1 (λd=>k [w1 y31 d .O] [] [])
theorem jcu:SO 314 j8E:=fK (np:=0) (Za6 j4w Zas) [jbb] (oI 58 0 @jh1 oN) false Tryz.func314 λ_ _ _ _=>by kernel_rfl
def j7f (t:qB×qE×qL) (l:List qW) (d:List qV) (r:List qV) (b:qR->Int->Res):Res:=j0u t l λh=>bif !h then b [] 1 else j2c t r λi=>bif !i then b [] 2 else j1C t l d λf=>j52 t d λj=>bif !j then b [] 5 else bif decide (f<0) then b [] 5 else j1D l f λg=>j0v t r λk=>j1C t g k λm=>bif decide (m>=0) then b [] 3 else j3i t g r λn=>b n 0
def jgS:Sig Unit:=sg [.borrow y29 true,.borrow y31 false,.borrow y3 false,.borrow y3 true] [false,false] [(y29,none),(y31,none),(y3,none),(y3,none)] [] λb g k=>j7f b.1 b.2.1 b.2.2.1 b.2.2.2.1 (λd f=>k [w1 y31 d .O,wI f] [] [])
theorem jmt:SO 289 jgS:=fK (np:=0) (Za6 jd5 (Za6 j4v (Za6 j6T (Za6 jd6 (Za6 jgD (Za6 jho (Za6 jcu Zas))))))) [] oN false Tryz.func289 λ_ _ _ _=>by delta j7f j1e j7X jaw jdC j8E j1f jcg;refine gz j0u λ_ b=>gz j2c λ_ d=>gz j1C λ_ f=>gz j52 λ_ g=>gz j1D λ_ h=>gz j0v λ_ i=>gz j3i λ_ j=> ?_;rewrite [<-b,<-d,<-f,<-g,<-h,<-i,<-j];kernel_rfl
def j7d (t:qB×qE×qL) (l:List qW) (b:List qV) (d:qR->Int->Res):Res:=j0u t l λr=>bif !r then d [] 1 else j1C t l b λf=>j52 t b λg=>bif !g then d [] 5 else bif decide (f<0) then d [] 5 else j1D l f λh=>d h 0
def jgQ:Sig Unit:=sg [.borrow y29 true,.borrow y31 false,.borrow y3 false] [false,false] [(y29,none),(y31,none),(y3,none)] [] λb g k=>j7d b.1 b.2.1 b.2.2.1 (λd f=>k [w1 y31 d .O,wI f] [] [])
theorem jmr:SO 290 jgQ:=fK (np:=0) (Za6 jd5 (Za6 j4v (Za6 jho (Za6 jcu Zas)))) [] oN false Tryz.func290 λ_ _ _ _=>by delta j7d j1e jaw jdC j8E;refine gz j0u λ_ b=>gz j1C λ_ d=>gz j52 λ_ f=>gz j1D λ_ g=> ?_;rewrite [<-b,<-d,<-f,<-g];kernel_rfl
theorem j5C:FS [(172,j1e),(210,j41),(230,j2o),(287,j4X)]:=(Za6 j4v (Za6 jd4 (Za6 j5E (Za6 jdZ Zas))))
def j56 (l:List qW) (t:qB×qE×qL) (d:qG) (b:Bool->Res):Res:=j0u t l λr=>bif !r then b true else j2b d λf=>bif !f then b true else bif sNe d.2.1 t.1 then b true else b (d.1==1)
def j27:Z1d Unit:=Nd 106 106 [.R 1 y31 .S,.t 3 (pB 3),.t 5 (pB 5)] [(3,y29,[.S,.S]),(5,y13,[.S,.S])] λf b g=>j56 f.1 b.1.2 b.2.1.2 (λd=>g .normal [(1,v1 y31 f.1 .S),(3,pB 3),(5,pB 5),(37,vB d)] [(3,⟨y29,b.1.1,b.1.2,[.S,.S]⟩),(5,⟨y13,b.2.1.1,b.2.1.2,[.S,.S]⟩)])
theorem jjv:CN 0 12 Tryz.f291 j27:=nK j5C [] oN ([1,3,5,37],[3,5]) [] ([],[]) λ_ _ _=>by delta j56 j1e j41;refine gz j0u λ_ b=>gz j2b λ_ d=> ?_;rewrite [<-b,<-d];kernel_rfl
def j0z (g:Int) (f:List qV) (h:Int) (d:qG) (b:Int) (x:List qV) (rec:Int->qW->Res) (i:qW->Res):Res:=bif decide (b<h) then bif inb b (List.length f) then bif (d.1 != 4) then bif lim ((List.length x)+1) then rec (Z9K (b+1)) (x++[nth (0,0,eS) f b]) else none else bif (b != g) then bif lim ((List.length x)+1) then rec (Z9K (b+1)) (x++[nth (0,0,eS) f b]) else none else rec (Z9K (b+1)) x else none else i x
def j2W (b:Int) (f:List qV) (g:Int) (d:qG):(Int×qW)->(Int×qW->Res)->((qW->Res))->Res:=λv rec q=>j0z b f g d v.1 v.2 (λh x=>rec (h,x)) q
def j7y (b:Int) (f:List qV) (g:Int) (d:qG) (n:Nat) (h:Int) (x:List qV) (i:qW->Res):Res:=Z1f (j2W b f g d) n (h,x) (i)
def j4k:Z1d Unit:=NdL 106 106 [.t 5 (pB 5),.R 10 y31 .O,.I 11,.t 14 (pB 14),.R 54 y31 .S,.I 55,.I 56,.R 62 y3 .S,.I 63,.I 64] [(5,y13,[.S,.S]),(14,y3,[.O])] (λb d=>(b.2.2.2.2.2.2.2.1,d.2.1.2)) (λb v=>(b.1,b.2.1,b.2.2.1,b.2.2.2.1,b.2.2.2.2.1,b.2.2.2.2.2.1,b.2.2.2.2.2.2.1,v.1,())) (λd v=>((d.1.1,d.1.2),(d.2.1.1,v.2),())) (λb d=>j2W b.2.1 b.2.2.2.2.2.1 b.2.2.2.2.2.2.1 d.1.2) λb d f=>((λg=>f (.exit 2) [(5,pB 5),(10,v1 y31 b.1 .O),(11,vI b.2.1),(14,pB 14),(54,v1 y31 b.2.2.1 .S),(55,vI b.2.2.2.1),(56,vI b.2.2.2.2.1)] [(5,⟨y13,d.1.1,d.1.2,[.S,.S]⟩),(14,⟨y3,d.2.1.1,g,[.O]⟩)]))
theorem jjt:CN 0 1042842 Tryz.f291 j4k:=lK j5C [j27] oN ([],[]) [(2,[5,10,11,14,54,55,56],[5,14])] ([],[]) λ_ _ _ _ _=>by kernel_rfl
def j7z (b:Bool) (d:qG) (x:List qV) (f:qW->Res):Res:=bif b then bif inb 0 (List.length d.2.2.1) then bif lim ((List.length x)+1) then f (x++[(nth (eS,0,false,false,0,0,eS) d.2.2.1 0).2.2.2.2]) else none else none else f x
def j6P:Z1d Unit:=Nd 106 106 [.t 5 (pB 5),.R 10 y31 .O,.I 11,.t 14 (pB 14),.R 54 y31 .S,.I 55,.I 56,.B 86] [(5,y13,[.S,.S]),(14,y3,[.O])] λb d f=>j7z b.2.2.2.2.2.1 d.1.2 d.2.1.2 (λg=>f .normal [(5,pB 5),(10,v1 y31 b.1 .O),(11,vI b.2.1),(14,pB 14),(54,v1 y31 b.2.2.1 .S),(55,vI b.2.2.2.1),(56,vI b.2.2.2.2.1)] [(5,⟨y13,d.1.1,d.1.2,[.S,.S]⟩),(14,⟨y3,d.2.1.1,g,[.O]⟩)])
theorem jjw:CN 0 1042845 Tryz.f291 j6P:=nK j5C [j27,j4k] oN ([5,10,11,14,54,55,56],[5,14]) [] ([],[]) λ_ _ _=>by kernel_rfl
def j1K (h:Int) (g:List qW) (i:Int) (d:qG) (f:List qW) (b:Int) (rec:qR->Int->Res) (j:qR->Res):Res:=bif decide (b<i) then bif inb b (List.length g) then j7y h (nth [] g b) (nI (List.length (nth [] g b))) d Z1c 0 [] λx=>j7z (d.1==3) d x λk=>bif (d.1 != 2) then bif lim ((List.length f)+1) then rec (f++[k]) (Z9K (b+1)) else none else rec f (Z9K (b+1)) else none else j f
def j2X (b:Int) (g:List qW) (h:Int) (d:qG):(qR×Int)->(qR×Int->Res)->((qR->Res))->Res:=λv rec q=>j1K b g h d v.1 v.2 (λf i=>rec (f,i)) q
def jaH (b:Int) (g:List qW) (h:Int) (d:qG) (n:Nat) (f:List qW) (i:Int) (j:qR->Res):Res:=Z1f (j2X b g h d) n (f,i) (j)
def j9O:Z1d Unit:=NdL 106 106 [.t 5 (pB 5),.R 10 y31 .O,.I 11,.R 54 y31 .S,.I 55,.I 56] [(5,y13,[.S,.S])] (λb d=>(b.1,b.2.2.2.2.1)) (λb v=>(v.1,b.2.1,b.2.2.1,b.2.2.2.1,v.2,())) (λd v=>((d.1.1,d.1.2),())) (λb d=>j2X b.2.1 b.2.2.1 b.2.2.2.1 d.1.2) λb d g=>((λf=>g (.exit 0) [(10,v1 y31 f .O)] []))
theorem jju:CN 0 1018 Tryz.f291 j9O:=lK j5C [j27,j4k,j6P] (oI 922 1 @jjt (oI 925 2 @jjw oN)) ([],[]) [(0,[10],[])] ([],[]) λ_ _ _ _ _=>by delta j2X j1K j4k j6P j7y;refine gz j2W λ_ b=>gz j7z λ_ d=> ?_;rewrite [<-b,<-d];kernel_rfl
def j6f (t:qB×qE×qL) (l:List qW) (d:qG) (b:qR->Int->Res):Res:=j56 l t d λi=>bif i then b [] 1 else j1S [t] d λr g=>bif (g != 0) then b [] g else j0G t d.2.2.2.2.1 λh=>jaH h l (nI (List.length l)) d Z1c [] 0 λf=>b f 0
def jfC:Sig Unit:=sg [.borrow y29 true,.borrow y31 false,.borrow y13 true] [false,false] [(y29,none),(y31,none),(y13,none)] [] λb g k=>j6f b.1 b.2.1 b.2.2.1 (λd f=>k [w1 y31 d .O,wI f] [] [])
theorem jl2:SO 291 jfC:=fK (np:=0) j5C [j27,j4k,j6P,j9O] (oI 12 0 @jjv (oI 1018 3 @jju oN)) false Tryz.func291 λ_ _ _ _=>by delta j6f j27 j4X j2o j9O jaH;refine gz j56 λ_ b=>gz j1S λ_ d=>gz j0G λ_ f=>gz j2X λ_ g=> ?_;rewrite [<-b,<-d,<-f,<-g];kernel_rfl
def j0U (l:List qV) (b:qW->Res):Res:=bif lim (0+(List.length l)) then b l else none
def j7r:Sig Unit:=sg [.borrow y3 false] [false] [(y3,none)] [] λd f k=>j0U d.1 (λb=>k [w1 y3 b .O] [] [])
theorem j7k:SO 178 j7r:=fK (np:=0) Zas [] oN false Tryz.func178 λ_ _ _ _=>by kernel_rfl
def jbO (c:qB×Int×Bool×Bool×Int×Int×qB) (d:Int×Int×qB) (b:Bool->Res):Res:=j0Z d λr=>bif r then bif (d.1==c.2.1) then b true else bif (d.1==0) then b (!c.2.2.1) else b false else b false
def jmS:Sig Unit:=sg [.look y7 true,.look y2 true] [false] [(y7,none),(y2,none)] [] λb f k=>jbO b.1 b.2.1 (λd=>k [wB d] [] [])
theorem jgy:SO 315 jmS:=fK (np:=0) (Za6 j7E Zas) [] oN false Tryz.func315 λ_ _ _ _=>by kernel_rfl
def j4R (d:List qV) (f:Int) (t:qB×qE×qL) (b:Int) (rec:Int->Res) (g:Unit->Res) (h:Unit->Res):Res:=bif decide (b<f) then bif inb b (List.length d) then bif inb b (List.length t.2.1) then jbO (nth (eS,0,false,false,0,0,eS) t.2.1 b) (nth (0,0,eS) d b) λr=>bif !r then h () else rec (Z9K (b+1)) else none else none else g ()
def jae (b:List qV) (d:Int) (t:qB×qE×qL):Int->(Int->Res)->((Unit->Res)×(Unit->Res))->Res:=λv rec q=>j4R b d t v (λf=>rec (f)) q.1 q.2
def jgI (b:List qV) (d:Int) (t:qB×qE×qL) (n:Nat) (f:Int) (g:Unit->Res) (h:Unit->Res):Res:=Z1f (jae b d t) n (f) (g,h)
def jfR:Z1d Unit:=NdL 31 31 [.t 2 (pB 2),.R 15 y3 .S,.I 16,.I 17] [(2,y29,[.S,.S])] (λb d=>(b.2.2.1)) (λb v=>(b.1,b.2.1,v,())) (λd v=>((d.1.1,d.1.2),())) (λb d=>jae b.1 b.2.1 d.1.2) λb d f=>((λ_=>f (.exit 0) [] []),(λ_=>f .ret [(4,vB false)] []))
theorem jlp:CN 0 58 Tryz.f293 jfR:=lK (Za6 jgy Zas) [] oN ([],[]) [(0,[],[])] ([4],[]) λ_ _ _ _ _=>by kernel_rfl
def j3b (t:qB×qE×qL) (r:List qV) (b:Bool->Res):Res:=bif ((nI (List.length r)) != (nI (List.length t.2.1))) then b false else jgI r (nI (List.length r)) t Z1c 0 (λ_=>b true) (λ_=>b false)
def j61:Sig Unit:=sg [.look y29 true,.look y3 true] [false] [(y29,none),(y3,none)] [] λb f k=>j3b b.1 b.2.1 (λd=>k [wB d] [] [])
theorem jcY:SO 293 j61:=fK (np:=0) (Za6 jgy Zas) [jfR] (oI 58 0 @jlp oN) false Tryz.func293 λ_ _ _ _=>by kernel_rfl
def j4Q (f:qL) (g:Int) (t:qB×qE×qL) (r:List qV) (d:List qV) (b:Int) (rec:qW->Int->Res) (i:qW->Res):Res:=bif decide (b<g) then bif inb b (List.length f) then j0e t (nth eS f b) λh=>bif inb h (List.length r) then bif lim ((List.length d)+1) then rec (d++[nth (0,0,eS) r h]) (Z9K (b+1)) else none else none else none else i d
def jad (d:qL) (f:Int) (t:qB×qE×qL) (r:List qV):(qW×Int)->(qW×Int->Res)->((qW->Res))->Res:=λv rec q=>j4Q d f t r v.1 v.2 (λb g=>rec (b,g)) q
def jgH (d:qL) (f:Int) (t:qB×qE×qL) (r:List qV) (n:Nat) (b:List qV) (g:Int) (h:qW->Res):Res:=Z1f (jad d f t r) n (b,g) (h)
def jfQ:Z1d Unit:=NdL 28 28 [.t 2 (pB 2),.t 3 (pB 3),.R 5 y3 .O,.R 10 y0 .S,.I 11,.I 12] [(2,y29,[.S,.S]),(3,y3,[.S])] (λb d=>(b.1,b.2.2.2.1)) (λb v=>(v.1,b.2.1,b.2.2.1,v.2,())) (λd v=>((d.1.1,d.1.2),(d.2.1.1,d.2.1.2),())) (λb d=>jad b.2.1 b.2.2.1 d.1.2 d.2.1.2) λb d g=>((λf=>g (.exit 0) [(5,v1 y3 f .O)] []))
theorem jlo:CN 0 58 Tryz.f238 jfQ:=lK (Za6 j3t Zas) [] oN ([],[]) [(0,[5],[])] ([],[]) λ_ _ _ _ _=>by kernel_rfl
def j0F (t:qB×qE×qL) (r:List qV) (d:qW->Res):Res:=jgH t.2.2 (nI (List.length t.2.2)) t r Z1c [] 0 λb=>d b
def j1A:Sig Unit:=sg [.borrow y29 true,.borrow y3 true] [false] [(y29,none),(y3,none)] [] λb f k=>j0F b.1 b.2.1 (λd=>k [w1 y3 d .O] [] [])
theorem j7F:SO 238 j1A:=fK (np:=0) (Za6 j3t Zas) [jfQ] (oI 58 0 @jlo oN) false Tryz.func238 λ_ _ _ _=>by kernel_rfl
def j2L (a:List qV) (b:List qV) (i:Int) (rec:Int->Res) (d:Unit->Res) (f:Bool->Res):Res:=bif decide (i<(nI (List.length a))) then bif decide (i<(nI (List.length b))) then bif inb i (List.length a) then bif inb i (List.length b) then bif !(((nth (0,0,eS) a i).1==(nth (0,0,eS) b i).1)&&(((nth (0,0,eS) a i).2.1==(nth (0,0,eS) b i).2.1)&&(sEq (nth (0,0,eS) a i).2.2 (nth (0,0,eS) b i).2.2))) then bif inb i (List.length a) then bif inb i (List.length b) then j7K (nth (0,0,eS) a i) (nth (0,0,eS) b i) λr=>f r else none else none else rec (Z9K (i+1)) else none else none else d () else d ()
def j8z (a:List qV) (b:List qV):Int->(Int->Res)->((Unit->Res)×(Bool->Res))->Res:=λv rec q=>j2L a b v (λi=>rec (i)) q.1 q.2
def je7 (a:List qV) (b:List qV) (n:Nat) (i:Int) (d:Unit->Res) (f:Bool->Res):Res:=Z1f (j8z a b) n (i) (d,f)
def jdI:Z1d Unit:=NdL 41 41 [.R 0 y3 .S,.R 1 y3 .S,.I 5] [] (λb d=>(b.2.2.1)) (λb v=>(b.1,b.2.1,v,())) (λd v=>()) (λb d=>j8z b.1 b.2.1) λb d f=>((λ_=>f (.exit 0) [(0,v1 y3 b.1 .S),(1,v1 y3 b.2.1 .S)] []),(λg=>f .ret [(4,vB g)] []))
theorem jjd:CN 0 26 Tryz.f294 jdI:=lK (Za6 jf6 Zas) [] oN ([],[]) [(0,[0,1],[])] ([4],[]) λ_ _ _ _ _=>by kernel_rfl
def j3y (a:List qV) (b:List qV) (d:Bool->Res):Res:=je7 a b Z1c 0 (λ_=>d (decide ((nI (List.length a))<(nI (List.length b))))) (λt=>d t)
def j5X:Sig Unit:=sg [.look y3 false,.look y3 false] [false] [(y3,none),(y3,none)] [] λb f k=>j3y b.1 b.2.1 (λd=>k [wB d] [] [])
theorem jf5:SO 294 j5X:=fK (np:=0) (Za6 jf6 Zas) [jdI] (oI 26 0 @jjd oN) false Tryz.func294 λ_ _ _ _=>by kernel_rfl
theorem jgo:FS [(238,j1A),(268,j3o),(293,j61),(294,j5X)]:=(Za6 j7F (Za6 j5D (Za6 jcY (Za6 jf5 Zas))))
def j23 (l:List qW) (d:List qW) (f:Int) (t:qB×qE×qL) (b:Int) (rec:Int->Res) (h:Unit->Res) (g:Unit->Res):Res:=bif decide (b<f) then bif inb b (List.length d) then j3b t (nth [] d b) λr=>bif !r then g () else bif decide (b>0) then bif inb (Z9K (b-1)) (List.length l) then j0F t (nth [] l (Z9K (b-1))) λi=>j0F t (nth [] d b) λj=>j3y i j λk=>bif !k then g () else rec (Z9K (b+1)) else none else rec (Z9K (b+1)) else none else h ()
def j3z (l:List qW) (b:List qW) (d:Int) (t:qB×qE×qL):Int->(Int->Res)->((Unit->Res)×(Unit->Res))->Res:=λv rec q=>j23 l b d t v (λf=>rec (f)) q.1 q.2
def jbh (l:List qW) (b:List qW) (d:Int) (t:qB×qE×qL) (n:Nat) (f:Int) (g:Unit->Res) (h:Unit->Res):Res:=Z1f (j3z l b d t) n (f) (g,h)
def jaP:Z1d Unit:=NdL 45 45 [.R 1 y31 .S,.t 2 (pB 2),.R 15 y31 .S,.I 16,.I 17] [(2,y29,[.S,.S])] (λb d=>(b.2.2.2.1)) (λb v=>(b.1,b.2.1,b.2.2.1,v,())) (λd v=>((d.1.1,d.1.2),())) (λb d=>j3z b.1 b.2.1 b.2.2.1 d.1.2) λb d f=>((λ_=>f (.exit 0) [] []),(λ_=>f .ret [(4,vB false)] []))
theorem jkf:CN 0 58 Tryz.f251 jaP:=lK jgo [] oN ([],[]) [(0,[],[])] ([4],[]) λ_ _ _ _ _=>by delta j3z j23 j61 j1A j5X;refine gz j3b λ_ b=>gz j0F λ_ d=>gz j3y λ_ f=> ?_;rewrite [<-b,<-d,<-f];kernel_rfl
def j0J (t:qB×qE×qL) (l:List qW) (b:Bool->Res):Res:=j0H t λr=>bif !r then b false else bif decide ((nI (List.length l))>60) then b false else jbh l l (nI (List.length l)) t Z1c 0 (λ_=>b true) (λ_=>b false)
def j1Q:Sig Unit:=sg [.look y29 true,.look y31 false] [false] [(y29,none),(y31,none)] [] λb f k=>j0J b.1 b.2.1 (λd=>k [wB d] [] [])
theorem j6S:SO 251 j1Q:=fK (np:=0) jgo [jaP] (oI 58 0 @jkf oN) false Tryz.func251 λ_ _ _ _=>by delta j0J j3o jaP jbh;refine gz j0H λ_ b=>gz j3z λ_ d=> ?_;rewrite [<-b,<-d];kernel_rfl
def j2i (f:List qW) (h:Int) (b:List qW) (d:Int) (rec:qR->Int->Res) (g:qR->Res):Res:=bif decide (d<h) then bif inb d (List.length f) then j0U (nth [] f d) λr=>bif lim ((List.length b)+1) then rec (b++[r]) (Z9K (d+1)) else none else none else g b
def j7L (d:List qW) (f:Int):(qR×Int)->(qR×Int->Res)->((qR->Res))->Res:=λv rec q=>j2i d f v.1 v.2 (λb g=>rec (b,g)) q
def jde (f:List qW) (g:Int) (n:Nat) (b:List qW) (h:Int) (d:qR->Res):Res:=Z1f (j7L f g) n (b,h) (d)
def jcw:Z1d Unit:=NdL 21 21 [.R 3 y31 .O,.R 6 y31 .S,.I 7,.I 8] [] (λb f=>(b.1,b.2.2.2.1)) (λb v=>(v.1,b.2.1,b.2.2.1,v.2,())) (λf v=>()) (λb f=>j7L b.2.1 b.2.2.1) λb f g=>((λd=>g (.exit 0) [(3,v1 y31 d .O)] []))
theorem jie:CN 0 58 Tryz.f232 jcw:=lK (Za6 j7k Zas) [] oN ([],[]) [(0,[3],[])] ([],[]) λ_ _ _ _ _=>by kernel_rfl
def j0o (l:List qW) (d:qR->Res):Res:=jde l (nI (List.length l)) Z1c [] 0 λb=>d b
def j0P:Sig Unit:=sg [.borrow y31 false] [false] [(y31,none)] [] λd f k=>j0o d.1 (λb=>k [w1 y31 b .O] [] [])
theorem j4E:SO 232 j0P:=fK (np:=0) (Za6 j7k Zas) [jcw] (oI 58 0 @jie oN) false Tryz.func232 λ_ _ _ _=>by kernel_rfl
theorem j89:FS [(211,j3Z),(232,j0P),(251,j1Q),(284,j0I),(317,j5Z),(324,jb7)]:=(Za6 jcV (Za6 j4E (Za6 j6S (Za6 j3t (Za6 jf8 (Za6 jgZ Zas))))))
def j4N (l:List qW) (t:qB×qE×qL) (d:qG) (b:Bool->Res):Res:=j0J t l λr=>bif !r then b true else j28 d λf=>bif !f then b true else bif sNe d.2.1 t.1 then b true else b (d.1==1)
def j4i:Z1d Unit:=Nd 98 98 [.R 1 y31 .S,.t 3 (pB 3),.t 5 (pB 5)] [(3,y29,[.S,.S]),(5,y13,[.S,.S])] λf b g=>j4N f.1 b.1.2 b.2.1.2 (λd=>g .normal [(1,v1 y31 f.1 .S),(3,pB 3),(5,pB 5),(33,vB d)] [(3,⟨y29,b.1.1,b.1.2,[.S,.S]⟩),(5,⟨y13,b.2.1.1,b.2.1.2,[.S,.S]⟩)])
theorem jjg:CN 0 12 Tryz.f298 j4i:=nK j89 [] oN ([1,3,5,33],[3,5]) [] ([],[]) λ_ _ _=>by delta j4N j1Q j3Z;refine gz j0J λ_ b=>gz j28 λ_ d=> ?_;rewrite [<-b,<-d];kernel_rfl
def j2M (g:Int) (d:qG) (f:List qW) (b:Int) (rec:qR->Int->Res) (h:qR->Res):Res:=bif decide (b<g) then bif inb b (List.length f) then bif inb 0 (List.length d.2.2.1) then bif lim ((List.length (nth [] f b))+1) then bif inb b (List.length (upd f b ((nth [] f b)++[(nth (eS,0,false,false,0,0,eS) d.2.2.1 0).2.2.2.2]))) then bif (Z9o (Int.toNat b) (Int.toNat b)&&true) then rec (upd f b ((nth [] f b)++[(nth (eS,0,false,false,0,0,eS) d.2.2.1 0).2.2.2.2])) (Z9K (b+1)) else none else none else none else none else none else h f
def j5h (f:Int) (d:qG):(qR×Int)->(qR×Int->Res)->((qR->Res))->Res:=λv rec q=>j2M f d v.1 v.2 (λb g=>rec (b,g)) q
def j7l (f:Int) (d:qG) (n:Nat) (b:List qW) (g:Int) (h:qR->Res):Res:=Z1f (j5h f d) n (b,g) (h)
def j6M:Z1d Unit:=NdL 98 98 [.t 5 (pB 5),.R 9 y31 .O,.I 51,.I 52] [(5,y13,[.S,.S])] (λb d=>(b.1,b.2.2.1)) (λb v=>(v.1,b.2.1,v.2,())) (λd v=>((d.1.1,d.1.2),())) (λb d=>j5h b.2.1 d.1.2) λb d g=>((λf=>g (.exit 1) [(9,v1 y31 f .O)] []))
theorem jje:CN 0 16058 Tryz.f298 j6M:=lK j89 [j4i] oN ([],[]) [(1,[9],[])] ([],[]) λ_ _ _ _ _=>by kernel_rfl
def j2N (f:Int) (g:Int) (d:List qW) (b:Int) (rec:qR->Int->Res) (h:qR->Res):Res:=bif decide (b<g) then bif inb b (List.length d) then j8F (nth [] d b) f (Z9K (f+1)) λr=>bif inb b (List.length (upd d b r)) then bif (Z9o (Int.toNat b) (Int.toNat b)&&true) then rec (upd d b r) (Z9K (b+1)) else none else none else none else h d
def j5i (b:Int) (f:Int):(qR×Int)->(qR×Int->Res)->((qR->Res))->Res:=λv rec q=>j2N b f v.1 v.2 (λd g=>rec (d,g)) q
def j7m (b:Int) (f:Int) (n:Nat) (d:List qW) (g:Int) (h:qR->Res):Res:=Z1f (j5i b f) n (d,g) (h)
def j9H:Z1d Unit:=NdL 98 98 [.R 9 y31 .O,.I 11,.I 79,.I 80] [] (λb f=>(b.1,b.2.2.2.1)) (λb v=>(v.1,b.2.1,b.2.2.1,v.2,())) (λf v=>()) (λb f=>j5i b.2.1 b.2.2.1) λb f g=>((λd=>g (.exit 3) [(9,v1 y31 d .O)] []))
theorem jjf:CN 0 128502 Tryz.f298 j9H:=lK j89 [j4i,j6M] oN ([],[]) [(3,[9],[])] ([],[]) λ_ _ _ _ _=>by kernel_rfl
def j5I (t:qB×qE×qL) (l:List qW) (d:qG) (b:qR->Int->Res):Res:=j4N l t d λj=>bif j then b [] 1 else j2j [t] d λr=>bif (r != 0) then b [] r else j0o l λg=>bif (d.1==2) then b [] 0 else bif (d.1==3) then j7l (nI (List.length g)) d Z1c g 0 λh=>b h 0 else bif (d.1==4) then j0e t d.2.2.2.2.1 λi=>j7m i (nI (List.length g)) Z1c g 0 λf=>b f 0 else b g 0
def jbr:Sig Unit:=sg [.borrow y29 true,.borrow y31 false,.borrow y13 true] [false,false] [(y29,none),(y31,none),(y13,none)] [] λb g k=>j5I b.1 b.2.1 b.2.2.1 (λd f=>k [w1 y31 d .O,wI f] [] [])
theorem jkV:SO 298 jbr:=fK (np:=0) j89 [j4i,j6M,j9H] (oI 12 0 @jjg (oI 16058 1 @jje (oI 128502 2 @jjf oN))) false Tryz.func298 λ_ _ _ _=>by delta j5I j4i j5Z j0P j6M j0I j9H j7l j7m;refine gz j4N λ_ b=>gz j2j λ_ d=>gz j0o λ_ f=>gz j5h λ_ g=>gz j0e λ_ h=>gz j5i λ_ i=> ?_;rewrite [<-b,<-d,<-f,<-g,<-h,<-i];kernel_rfl
def jbN (r:List qV) (g:qB×qE×qL) (h:List qV) (b:Bool->Res):Res:=j0F g r λd=>j1k d h λf=>b f
def jmR:Sig Unit:=sg [.look y3 true,.rptr y29,.rptr y3] [false] [(y3,none),(y29,none),(y3,none)] [] λb f k=>jbN b.1 b.2.1 b.2.2.1 (λd=>k [wB d] [] [])
theorem jgx:SO 237 jmR:=fK (np:=0) (Za6 jbR (Za6 j7F Zas)) [] oN false Tryz.func237 λ_ _ _ _=>by delta jbN j1A j4W;refine gz j0F λ_ b=>gz j1k λ_ d=> ?_;rewrite [<-b,<-d];kernel_rfl
def j0R (s:List qW) (f:qT×List qV) (h:Int) (b:Int) (rec:Int->Res) (d:Unit->Res) (g:Int->Res):Res:=bif decide (b<h) then bif inb b (List.length s) then jbN (nth [] s b) f.1 f.2 λr=>bif r then g b else rec (Z9K (b+1)) else none else d ()
def j3d (s:List qW) (f:qT×List qV) (b:Int):Int->(Int->Res)->((Unit->Res)×(Int->Res))->Res:=λv rec q=>j0R s f b v (λd=>rec (d)) q.1 q.2
def j8v (s:List qW) (f:qT×List qV) (g:Int) (n:Nat) (h:Int) (b:Unit->Res) (d:Int->Res):Res:=Z1f (j3d s f g) n (h) (b,d)
def j85:Z1d Unit:=NdL 19 19 [.R 0 y31 .S,.c 1 237 [y29,y3] y36 [.S,.S,.S],.I 7,.I 8] [] (λb d=>(b.2.2.2.1)) (λb v=>(b.1,b.2.1,b.2.2.1,v,())) (λd v=>()) (λb d=>j3d b.1 b.2.1 b.2.2.1) λb d f=>((λ_=>f (.exit 0) [] []),(λg=>f .ret [(4,vI g)] []))
theorem jdu:CN 0 26 Tryz.f236 j85:=lK (Za6 jgx Zas) [] oN ([],[]) [(0,[],[])] ([4],[]) λ_ _ _ _ _=>by kernel_rfl
def j6D (s:List qW) (f:qT×List qV) (b:Int->Res):Res:=j8v s f (nI (List.length s)) Z1c 0 (λ_=>b (-1)) (λt=>b t)
def jeT:Sig Unit:=sg [.look y31 false,.rclos 237 [y29,y3]] [false] [(y31,none),(y36,none)] [] λb f k=>j6D b.1 b.2.1 (λd=>k [wI d] [] [])
theorem jeI:SO 236 jeT:=fK (np:=0) (Za6 jgx Zas) [j85] (oI 26 0 @jdu oN) false Tryz.func236 λ_ _ _ _=>by kernel_rfl
def j10 (t:qB×qE×qL) (l:List qW) (b:List qV) (d:Int->Res):Res:=j6D l (t,b) λr=>d r
def j60:Sig Unit:=sg [.look y29 true,.look y31 false,.look y3 false] [false] [(y29,none),(y31,none),(y3,none)] [] λb f k=>j10 b.1 b.2.1 b.2.2.1 (λd=>k [wI d] [] [])
theorem jcX:SO 177 j60:=fK (np:=0) (Za6 jeI Zas) [] oN false Tryz.func177 λ_ _ _ _=>by kernel_rfl
theorem jgr:FS [(178,j7r),(232,j0P),(238,j1A),(294,j5X),(325,j7i)]:=(Za6 j7k (Za6 j4E (Za6 j7F (Za6 jf5 (Za6 jh0 Zas)))))
def j24 (l:List qW) (t:qB×qE×qL) (r:List qV) (b:Int) (rec:Int->Res) (d:Int->Res):Res:=bif decide (b<(nI (List.length l))) then bif inb b (List.length l) then j0F t (nth [] l b) λf=>j0F t r λg=>j3y f g λh=>bif h then rec (Z9K (b+1)) else d b else none else d b
def j3D (l:List qW) (t:qB×qE×qL) (r:List qV):Int->(Int->Res)->((Int->Res))->Res:=λv rec q=>j24 l t r v (λb=>rec (b)) q
def jbk (l:List qW) (t:qB×qE×qL) (r:List qV) (n:Nat) (b:Int) (d:Int->Res):Res:=Z1f (j3D l t r) n (b) (d)
def jaT:Z1d Unit:=NdL 35 35 [.R 1 y31 .S,.t 3 (pB 3),.t 5 (pB 5),.I 7] [(3,y29,[.S,.S]),(5,y3,[.S])] (λd b=>(d.2.1)) (λd v=>(d.1,v,())) (λb v=>((b.1.1,b.1.2),(b.2.1.1,b.2.1.2),())) (λd b=>j3D d.1 b.1.2 b.2.1.2) λd b g=>((λf=>g (.exit 0) [(1,v1 y31 d.1 .S),(5,pB 5),(7,vI f)] [(5,⟨y3,b.2.1.1,b.2.1.2,[.S]⟩)]))
theorem jkj:CN 0 28 Tryz.f299 jaT:=lK jgr [] oN ([],[]) [(0,[1,5,7],[5])] ([],[]) λ_ _ _ _ _=>by delta j3D j24 j1A j5X;refine gz j0F λ_ b=>gz j3y λ_ d=> ?_;rewrite [<-b,<-d];kernel_rfl
def j29 (t:qB×qE×qL) (l:List qW) (r:List qV) (d:qR->Res):Res:=jbk l t r Z1c 0 λb=>j0o l λf=>j0U r λg=>j5l f b [g] λh=>d h
def j9b:Sig Unit:=sg [.borrow y29 true,.borrow y31 false,.borrow y3 true] [false] [(y29,none),(y31,none),(y3,none)] [] λb f k=>j29 b.1 b.2.1 b.2.2.1 (λd=>k [w1 y31 d .O] [] [])
theorem jgw:SO 299 j9b:=fK (np:=0) jgr [jaT] (oI 28 0 @jkj oN) false Tryz.func299 λ_ _ _ _=>by delta j29 jaT j0P j7r j7i jbk;refine gz j3D λ_ b=>gz j0o λ_ d=>gz j0U λ_ f=>gz j5l λ_ g=> ?_;rewrite [<-b,<-d,<-f,<-g];kernel_rfl
def j76 (t:qB×qE×qL) (l:List qW) (r:List qV) (b:qR->Int->Res):Res:=j0J t l λd=>bif !d then b [] 1 else j3b t r λf=>bif !f then b [] 2 else j0F t r λg=>j10 t l g λh=>bif decide (h>=0) then b [] 3 else bif ((nI (List.length l))==60) then b [] 4 else j29 t l r λi=>b i 0
def jcb:Sig Unit:=sg [.borrow y29 true,.borrow y31 false,.borrow y3 true] [false,false] [(y29,none),(y31,none),(y3,none)] [] λb g k=>j76 b.1 b.2.1 b.2.2.1 (λd f=>k [w1 y31 d .O,wI f] [] [])
theorem jmf:SO 253 jcb:=fK (np:=0) (Za6 jcX (Za6 j7F (Za6 j6S (Za6 jcY (Za6 jgw Zas))))) [] oN false Tryz.func253 λ_ _ _ _=>by delta j76 j1Q j61 j1A j60 j9b;refine gz j0J λ_ b=>gz j3b λ_ d=>gz j0F λ_ f=>gz j10 λ_ g=>gz j29 λ_ h=> ?_;rewrite [<-b,<-d,<-f,<-g,<-h];kernel_rfl
theorem jh3:FS [(268,j3o),(273,j7U),(284,j0I)]:=(Za6 j5D (Za6 j7E (Za6 j3t Zas)))
def j2u (d:List qV) (f:qL) (g:Int) (t:qB×qE×qL) (b:Int) (rec:Int->Res) (j:Unit->Res) (h:Unit->Res):Res:=bif decide (b<g) then bif inb b (List.length f) then bif inb b (List.length d) then j0Z (nth (0,0,eS) d b) λr=>bif !r then h () else bif inb b (List.length d) then j0e t (nth eS f b) λi=>bif inb i (List.length t.2.1) then bif ((nth (0,0,eS) d b).1 != (nth (eS,0,false,false,0,0,eS) t.2.1 i).2.1) then h () else rec (Z9K (b+1)) else none else none else none else none else j ()
def j4M (b:List qV) (d:qL) (f:Int) (t:qB×qE×qL):Int->(Int->Res)->((Unit->Res)×(Unit->Res))->Res:=λv rec q=>j2u b d f t v (λg=>rec (g)) q.1 q.2
def jc5 (b:List qV) (d:qL) (f:Int) (t:qB×qE×qL) (n:Nat) (g:Int) (h:Unit->Res) (i:Unit->Res):Res:=Z1f (j4M b d f t) n (g) (h,i)
def jbF:Z1d Unit:=NdL 49 49 [.R 1 y3 .S,.t 2 (pB 2),.R 19 y0 .S,.I 20,.I 21] [(2,y29,[.S,.S])] (λb d=>(b.2.2.2.1)) (λb v=>(b.1,b.2.1,b.2.2.1,v,())) (λd v=>((d.1.1,d.1.2),())) (λb d=>j4M b.1 b.2.1 b.2.2.1 d.1.2) λb d f=>((λ_=>f (.exit 0) [] []),(λ_=>f .ret [(4,vB false)] []))
theorem jln:CN 0 58 Tryz.f300 jbF:=lK jh3 [] oN ([],[]) [(0,[],[])] ([4],[]) λ_ _ _ _ _=>by delta j4M j2u j7U j0I;refine gz j0Z λ_ b=>gz j0e λ_ d=> ?_;rewrite [<-b,<-d];kernel_rfl
def j4L (t:qB×qE×qL) (b:List qV) (d:Bool->Res):Res:=j0H t λr=>bif !r then d false else bif ((nI (List.length b)) != (nI (List.length t.2.2))) then d false else jc5 b t.2.2 (nI (List.length t.2.2)) t Z1c 0 (λ_=>d true) (λ_=>d false)
def jar:Sig Unit:=sg [.look y29 true,.look y3 false] [false] [(y29,none),(y3,none)] [] λb f k=>j4L b.1 b.2.1 (λd=>k [wB d] [] [])
theorem jhb:SO 300 jar:=fK (np:=0) jh3 [jbF] (oI 58 0 @jln oN) false Tryz.func300 λ_ _ _ _=>by delta j4L j3o jbF jc5;refine gz j0H λ_ b=>gz j4M λ_ d=> ?_;rewrite [<-b,<-d];kernel_rfl
theorem jgn:FS [(128,j4W),(177,j60),(232,j0P),(238,j1A),(251,j1Q),(293,j61),(299,j9b),(300,jar),(301,j4n)]:=(Za6 jbR (Za6 jcX (Za6 j4E (Za6 j7F (Za6 j6S (Za6 jcY (Za6 jgw (Za6 jhb (Za6 jb3 Zas)))))))))
def j5H (l:List qW) (b:List qV) (now:List qV) (t:qB×qE×qL) (d:Unit->Res) (f:Unit->Res):Res:=j1k now b λg=>bif !g then j10 t l now λh=>bif decide (h>=0) then f () else d () else d ()
def jaO:Z1d Unit:=Nd 61 61 [.R 1 y31 .S,.R 2 y3 .S,.t 4 (pB 4),.t 7 (pB 7),.R 10 y3 .O] [(4,y29,[.S,.S]),(7,y3,[.S])] λb d f=>j5H b.1 b.2.1 b.2.2.1 d.1.2 (λ_=>f .normal [(1,v1 y31 b.1 .S),(2,v1 y3 b.2.1 .S),(4,pB 4),(7,pB 7)] [(4,⟨y29,d.1.1,d.1.2,[.S,.S]⟩),(7,⟨y3,d.2.1.1,d.2.1.2,[.S]⟩)]) (λ_=>f .ret [(8,v1 y31 [] .O),(9,vI 3)] [])
theorem jke:CN 0 30 Tryz.f254 jaO:=nK jgn [] oN ([1,2,4,7],[4,7]) [] ([8,9],[]) λ_ _ _=>by delta j5H j4W j60;refine gz j1k λ_ b=>gz j10 λ_ d=> ?_;rewrite [<-b,<-d];kernel_rfl
def j77 (t:qB×qE×qL) (l:List qW) (b:List qV) (r:List qV) (d:qR->Int->Res):Res:=j0J t l λg=>bif !g then d [] 1 else j3b t r λh=>bif !h then d [] 2 else j4L t b λi=>bif !i then d [] 5 else j10 t l b λj=>bif decide (j<0) then d [] 5 else j0F t r λk=>j5H l b k t (λ_=>j10 t l b λf=>j0o l λm=>j0L m f (Z9K (f+1)) λn=>j29 t n r λp=>d p 0) (λ_=>d [] 3)
def jcc:Sig Unit:=sg [.borrow y29 true,.borrow y31 false,.borrow y3 false,.borrow y3 true] [false,false] [(y29,none),(y31,none),(y3,none),(y3,none)] [] λb g k=>j77 b.1 b.2.1 b.2.2.1 b.2.2.2.1 (λd f=>k [w1 y31 d .O,wI f] [] [])
theorem jmg:SO 254 jcc:=fK (np:=0) jgn [jaO] (oI 30 0 @jke oN) false Tryz.func254 λ_ _ _ _=>by delta j77 j1Q j61 jar j60 j1A jaO j0P j4n j9b;refine gz j0J λ_ b=>gz j3b λ_ d=>gz j4L λ_ f=>gz j10 λ_ g=>gz j0F λ_ h=>gz j5H λ_ i=>gz j0o λ_ j=>gz j0L λ_ k=>gz j29 λ_ l=> ?_;rewrite [<-b,<-d,<-f,<-g,<-h,<-i,<-j,<-k,<-l];kernel_rfl
def j75 (t:qB×qE×qL) (l:List qW) (b:List qV) (d:qR->Int->Res):Res:=j0J t l λr=>bif !r then d [] 1 else j4L t b λg=>bif !g then d [] 5 else j10 t l b λh=>bif decide (h<0) then d [] 5 else j10 t l b λf=>j0o l λi=>j0L i f (Z9K (f+1)) λj=>d j 0
def jca:Sig Unit:=sg [.borrow y29 true,.borrow y31 false,.borrow y3 false] [false,false] [(y29,none),(y31,none),(y3,none)] [] λb g k=>j75 b.1 b.2.1 b.2.2.1 (λd f=>k [w1 y31 d .O,wI f] [] [])
theorem jme:SO 255 jca:=fK (np:=0) (Za6 jcX (Za6 j4E (Za6 j6S (Za6 jhb (Za6 jb3 Zas))))) [] oN false Tryz.func255 λ_ _ _ _=>by delta j75 j1Q jar j60 j0P j4n;refine gz j0J λ_ b=>gz j4L λ_ d=>gz j10 λ_ f=>gz j0o λ_ g=>gz j0L λ_ h=> ?_;rewrite [<-b,<-d,<-f,<-g,<-h];kernel_rfl
end
end Go.PI.G
